/-
  Closed facts of this seat's program: types and functions. Written by a program (wip/tools/facts.py).
-/
import Derived.Test.YtobdagjdhgjplaaProg
import Derived.KernelRfl
import Derived.Test.YtobdagjdhgjplaaLibB
set_option maxRecDepth 100000
namespace Go.Proofs.Ytobdagjdhgjplaa
open Go Go.Sn
@[go_sem] theorem sz1 : szT Try.prog 1 = some 1 := by kernel_rfl
@[go_sem] theorem ag1 : aggT Try.prog 1 = some false := by kernel_rfl
@[go_sem] theorem by1 : bytesT Try.prog 1 = some 8 := by kernel_rfl
@[go_sem] theorem sz2 : szT Try.prog 2 = some 1 := by kernel_rfl
@[go_sem] theorem ag2 : aggT Try.prog 2 = some false := by kernel_rfl
@[go_sem] theorem by2 : bytesT Try.prog 2 = some 8 := by kernel_rfl
@[go_sem] theorem zr2 : zeroT Try.prog 2 = some [.v (.int .i64 0)] := by kernel_rfl
@[go_sem] theorem sz3 : szT Try.prog 3 = some 1 := by kernel_rfl
@[go_sem] theorem ag3 : aggT Try.prog 3 = some false := by kernel_rfl
@[go_sem] theorem by3 : bytesT Try.prog 3 = some 8 := by kernel_rfl
@[go_sem] theorem zr3 : zeroT Try.prog 3 = some [.v (.int .i64 0)] := by kernel_rfl
@[go_sem] theorem sz4 : szT Try.prog 4 = some 1 := by kernel_rfl
@[go_sem] theorem ag4 : aggT Try.prog 4 = some false := by kernel_rfl
@[go_sem] theorem by4 : bytesT Try.prog 4 = some 1 := by kernel_rfl
@[go_sem] theorem zr4 : zeroT Try.prog 4 = some [.v (.bool false)] := by kernel_rfl
@[go_sem] theorem sz5 : szT Try.prog 5 = some 1 := by kernel_rfl
@[go_sem] theorem ag5 : aggT Try.prog 5 = some false := by kernel_rfl
@[go_sem] theorem by5 : bytesT Try.prog 5 = some 1 := by kernel_rfl
@[go_sem] theorem zr5 : zeroT Try.prog 5 = some [.v (.int .u8 0)] := by kernel_rfl
@[go_sem] theorem sz9 : szT Try.prog 9 = some 1 := by kernel_rfl
@[go_sem] theorem ag9 : aggT Try.prog 9 = some false := by kernel_rfl
@[go_sem] theorem by9 : bytesT Try.prog 9 = some 16 := by kernel_rfl
@[go_sem] theorem zr9 : zeroT Try.prog 9 = some [.v (.string ⟨#[]⟩)] := by kernel_rfl
@[go_sem] theorem sz21 : szT Try.prog 21 = some 1 := by kernel_rfl
@[go_sem] theorem ag21 : aggT Try.prog 21 = some false := by kernel_rfl
@[go_sem] theorem by21 : bytesT Try.prog 21 = some 4 := by kernel_rfl
@[go_sem] theorem zr21 : zeroT Try.prog 21 = some [.v (.int .i32 0)] := by kernel_rfl
@[go_sem] theorem sz22 : szT Try.prog 22 = some 1 := by kernel_rfl
@[go_sem] theorem ag22 : aggT Try.prog 22 = some false := by kernel_rfl
@[go_sem] theorem by22 : bytesT Try.prog 22 = some 24 := by kernel_rfl
@[go_sem] theorem zr22 : zeroT Try.prog 22 = some [.nil] := by kernel_rfl
@[go_sem] theorem sz23 : szT Try.prog 23 = some 1 := by kernel_rfl
@[go_sem] theorem ag23 : aggT Try.prog 23 = some false := by kernel_rfl
@[go_sem] theorem by23 : bytesT Try.prog 23 = some 8 := by kernel_rfl
@[go_sem] theorem sz24 : szT Try.prog 24 = some 1 := by kernel_rfl
@[go_sem] theorem ag24 : aggT Try.prog 24 = some false := by kernel_rfl
@[go_sem] theorem by24 : bytesT Try.prog 24 = some 1 := by kernel_rfl
@[go_sem] theorem zr24 : zeroT Try.prog 24 = some [.v (.int .u8 0)] := by kernel_rfl
@[go_sem] theorem sz25 : szT Try.prog 25 = some 1 := by kernel_rfl
@[go_sem] theorem ag25 : aggT Try.prog 25 = some false := by kernel_rfl
@[go_sem] theorem by25 : bytesT Try.prog 25 = some 8 := by kernel_rfl
@[go_sem] theorem sz26 : szT Try.prog 26 = some 1 := by kernel_rfl
@[go_sem] theorem ag26 : aggT Try.prog 26 = some false := by kernel_rfl
@[go_sem] theorem by26 : bytesT Try.prog 26 = some 8 := by kernel_rfl
@[go_sem] theorem sz27 : szT Try.prog 27 = some 1 := by kernel_rfl
@[go_sem] theorem ag27 : aggT Try.prog 27 = some false := by kernel_rfl
@[go_sem] theorem by27 : bytesT Try.prog 27 = some 8 := by kernel_rfl
@[go_sem] theorem sz28 : szT Try.prog 28 = some 1 := by kernel_rfl
@[go_sem] theorem ag28 : aggT Try.prog 28 = some false := by kernel_rfl
@[go_sem] theorem by28 : bytesT Try.prog 28 = some 8 := by kernel_rfl
@[go_sem] theorem sz29 : szT Try.prog 29 = some 1 := by kernel_rfl
@[go_sem] theorem ag29 : aggT Try.prog 29 = some false := by kernel_rfl
@[go_sem] theorem by29 : bytesT Try.prog 29 = some 8 := by kernel_rfl
@[go_sem] theorem sz30 : szT Try.prog 30 = some 1 := by kernel_rfl
@[go_sem] theorem ag30 : aggT Try.prog 30 = some false := by kernel_rfl
@[go_sem] theorem by30 : bytesT Try.prog 30 = some 8 := by kernel_rfl
@[go_sem] theorem sz31 : szT Try.prog 31 = some 1 := by kernel_rfl
@[go_sem] theorem ag31 : aggT Try.prog 31 = some false := by kernel_rfl
@[go_sem] theorem by31 : bytesT Try.prog 31 = some 8 := by kernel_rfl
@[go_sem] theorem sz32 : szT Try.prog 32 = some 1 := by kernel_rfl
@[go_sem] theorem ag32 : aggT Try.prog 32 = some false := by kernel_rfl
@[go_sem] theorem by32 : bytesT Try.prog 32 = some 8 := by kernel_rfl
@[go_sem] theorem sz33 : szT Try.prog 33 = some 1 := by kernel_rfl
@[go_sem] theorem ag33 : aggT Try.prog 33 = some false := by kernel_rfl
@[go_sem] theorem by33 : bytesT Try.prog 33 = some 8 := by kernel_rfl
@[go_sem] theorem sz34 : szT Try.prog 34 = some 1 := by kernel_rfl
@[go_sem] theorem ag34 : aggT Try.prog 34 = some false := by kernel_rfl
@[go_sem] theorem by34 : bytesT Try.prog 34 = some 8 := by kernel_rfl
@[go_sem] theorem sz35 : szT Try.prog 35 = some 1 := by kernel_rfl
@[go_sem] theorem ag35 : aggT Try.prog 35 = some false := by kernel_rfl
@[go_sem] theorem by35 : bytesT Try.prog 35 = some 8 := by kernel_rfl
@[go_sem] theorem sz36 : szT Try.prog 36 = some 1 := by kernel_rfl
@[go_sem] theorem ag36 : aggT Try.prog 36 = some false := by kernel_rfl
@[go_sem] theorem by36 : bytesT Try.prog 36 = some 24 := by kernel_rfl
@[go_sem] theorem zr36 : zeroT Try.prog 36 = some [.nil] := by kernel_rfl
@[go_sem] theorem sz37 : szT Try.prog 37 = some 3 := by kernel_rfl
@[go_sem] theorem ag37 : aggT Try.prog 37 = some true := by kernel_rfl
@[go_sem] theorem by37 : bytesT Try.prog 37 = some 40 := by kernel_rfl
@[go_sem] theorem zr37 : zeroT Try.prog 37 = some [.v (.int .i64 0), .v (.int .i64 0), .nil] := by kernel_rfl
@[go_sem] theorem off37_0 : offT Try.prog 37 0 = some 0 := by kernel_rfl
@[go_sem] theorem fo37_0 : ftoT Try.prog 37 0 = some (3, 0) := by kernel_rfl
@[go_sem] theorem off37_1 : offT Try.prog 37 1 = some 1 := by kernel_rfl
@[go_sem] theorem fo37_1 : ftoT Try.prog 37 1 = some (3, 1) := by kernel_rfl
@[go_sem] theorem off37_2 : offT Try.prog 37 2 = some 2 := by kernel_rfl
@[go_sem] theorem fo37_2 : ftoT Try.prog 37 2 = some (36, 2) := by kernel_rfl
@[go_sem] theorem pl37 : placesT Try.prog 37 = some [(0, 1), (1, 1), (2, 1)] := by kernel_rfl
@[go_sem] theorem sz38 : szT Try.prog 38 = some 3 := by kernel_rfl
@[go_sem] theorem ag38 : aggT Try.prog 38 = some true := by kernel_rfl
@[go_sem] theorem by38 : bytesT Try.prog 38 = some 40 := by kernel_rfl
@[go_sem] theorem zr38 : zeroT Try.prog 38 = some [.v (.int .i64 0), .v (.int .i64 0), .nil] := by kernel_rfl
@[go_sem] theorem off38_0 : offT Try.prog 38 0 = some 0 := by kernel_rfl
@[go_sem] theorem fo38_0 : ftoT Try.prog 38 0 = some (3, 0) := by kernel_rfl
@[go_sem] theorem off38_1 : offT Try.prog 38 1 = some 1 := by kernel_rfl
@[go_sem] theorem fo38_1 : ftoT Try.prog 38 1 = some (3, 1) := by kernel_rfl
@[go_sem] theorem off38_2 : offT Try.prog 38 2 = some 2 := by kernel_rfl
@[go_sem] theorem fo38_2 : ftoT Try.prog 38 2 = some (36, 2) := by kernel_rfl
@[go_sem] theorem pl38 : placesT Try.prog 38 = some [(0, 1), (1, 1), (2, 1)] := by kernel_rfl
@[go_sem] theorem sz39 : szT Try.prog 39 = some 1 := by kernel_rfl
@[go_sem] theorem ag39 : aggT Try.prog 39 = some false := by kernel_rfl
@[go_sem] theorem by39 : bytesT Try.prog 39 = some 8 := by kernel_rfl
@[go_sem] theorem sz40 : szT Try.prog 40 = some 1 := by kernel_rfl
@[go_sem] theorem ag40 : aggT Try.prog 40 = some false := by kernel_rfl
@[go_sem] theorem by40 : bytesT Try.prog 40 = some 8 := by kernel_rfl
@[go_sem] theorem zr40 : zeroT Try.prog 40 = some [.v (.pointer none)] := by kernel_rfl
@[go_sem] theorem sz41 : szT Try.prog 41 = some 1 := by kernel_rfl
@[go_sem] theorem ag41 : aggT Try.prog 41 = some false := by kernel_rfl
@[go_sem] theorem by41 : bytesT Try.prog 41 = some 24 := by kernel_rfl
@[go_sem] theorem zr41 : zeroT Try.prog 41 = some [.nil] := by kernel_rfl
@[go_sem] theorem sz42 : szT Try.prog 42 = some 1 := by kernel_rfl
@[go_sem] theorem ag42 : aggT Try.prog 42 = some false := by kernel_rfl
@[go_sem] theorem by42 : bytesT Try.prog 42 = some 8 := by kernel_rfl
@[go_sem] theorem zr42 : zeroT Try.prog 42 = some [.v (.int .i64 0)] := by kernel_rfl
@[go_sem] theorem sz44 : szT Try.prog 44 = some 1 := by kernel_rfl
@[go_sem] theorem ag44 : aggT Try.prog 44 = some false := by kernel_rfl
@[go_sem] theorem by44 : bytesT Try.prog 44 = some 8 := by kernel_rfl
@[go_sem] theorem sz45 : szT Try.prog 45 = some 1 := by kernel_rfl
@[go_sem] theorem ag45 : aggT Try.prog 45 = some false := by kernel_rfl
@[go_sem] theorem by45 : bytesT Try.prog 45 = some 8 := by kernel_rfl
@[go_sem] theorem zr45 : zeroT Try.prog 45 = some [.v (.pointer none)] := by kernel_rfl
@[go_sem] theorem sz47 : szT Try.prog 47 = some 1 := by kernel_rfl
@[go_sem] theorem ag47 : aggT Try.prog 47 = some false := by kernel_rfl
@[go_sem] theorem by47 : bytesT Try.prog 47 = some 8 := by kernel_rfl
@[go_sem] theorem sz48 : szT Try.prog 48 = some 1 := by kernel_rfl
@[go_sem] theorem ag48 : aggT Try.prog 48 = some false := by kernel_rfl
@[go_sem] theorem by48 : bytesT Try.prog 48 = some 8 := by kernel_rfl
@[go_sem] theorem sz49 : szT Try.prog 49 = some 1 := by kernel_rfl
@[go_sem] theorem ag49 : aggT Try.prog 49 = some false := by kernel_rfl
@[go_sem] theorem by49 : bytesT Try.prog 49 = some 8 := by kernel_rfl
@[go_sem] theorem sz50 : szT Try.prog 50 = some 1 := by kernel_rfl
@[go_sem] theorem ag50 : aggT Try.prog 50 = some false := by kernel_rfl
@[go_sem] theorem by50 : bytesT Try.prog 50 = some 8 := by kernel_rfl
@[go_sem] theorem sz51 : szT Try.prog 51 = some 1 := by kernel_rfl
@[go_sem] theorem ag51 : aggT Try.prog 51 = some false := by kernel_rfl
@[go_sem] theorem by51 : bytesT Try.prog 51 = some 8 := by kernel_rfl
@[go_sem] theorem sz52 : szT Try.prog 52 = some 1 := by kernel_rfl
@[go_sem] theorem ag52 : aggT Try.prog 52 = some false := by kernel_rfl
@[go_sem] theorem by52 : bytesT Try.prog 52 = some 8 := by kernel_rfl
@[go_sem] theorem sz53 : szT Try.prog 53 = some 1 := by kernel_rfl
@[go_sem] theorem ag53 : aggT Try.prog 53 = some false := by kernel_rfl
@[go_sem] theorem by53 : bytesT Try.prog 53 = some 8 := by kernel_rfl
@[go_sem] theorem zr53 : zeroT Try.prog 53 = some [.v (.int .u64 0)] := by kernel_rfl
@[go_sem] theorem sz54 : szT Try.prog 54 = some 4 := by kernel_rfl
@[go_sem] theorem ag54 : aggT Try.prog 54 = some true := by kernel_rfl
@[go_sem] theorem by54 : bytesT Try.prog 54 = some 32 := by kernel_rfl
@[go_sem] theorem zr54 : zeroT Try.prog 54 = some [.v (.int .i64 0), .v (.int .i64 0), .v (.int .i64 0), .v (.bool false)] := by kernel_rfl
@[go_sem] theorem off54_0 : offT Try.prog 54 0 = some 0 := by kernel_rfl
@[go_sem] theorem fo54_0 : ftoT Try.prog 54 0 = some (3, 0) := by kernel_rfl
@[go_sem] theorem off54_1 : offT Try.prog 54 1 = some 1 := by kernel_rfl
@[go_sem] theorem fo54_1 : ftoT Try.prog 54 1 = some (3, 1) := by kernel_rfl
@[go_sem] theorem off54_2 : offT Try.prog 54 2 = some 2 := by kernel_rfl
@[go_sem] theorem fo54_2 : ftoT Try.prog 54 2 = some (3, 2) := by kernel_rfl
@[go_sem] theorem off54_3 : offT Try.prog 54 3 = some 3 := by kernel_rfl
@[go_sem] theorem fo54_3 : ftoT Try.prog 54 3 = some (4, 3) := by kernel_rfl
@[go_sem] theorem pl54 : placesT Try.prog 54 = some [(0, 1), (1, 1), (2, 1), (3, 1)] := by kernel_rfl
@[go_sem] theorem eq54 : eqShape Try.prog 54 = some [.int .i64, .int .i64, .int .i64, .bool] := by kernel_rfl
@[go_sem] theorem sz55 : szT Try.prog 55 = some 4 := by kernel_rfl
@[go_sem] theorem ag55 : aggT Try.prog 55 = some true := by kernel_rfl
@[go_sem] theorem by55 : bytesT Try.prog 55 = some 32 := by kernel_rfl
@[go_sem] theorem zr55 : zeroT Try.prog 55 = some [.v (.int .i64 0), .v (.int .i64 0), .v (.int .i64 0), .v (.bool false)] := by kernel_rfl
@[go_sem] theorem off55_0 : offT Try.prog 55 0 = some 0 := by kernel_rfl
@[go_sem] theorem fo55_0 : ftoT Try.prog 55 0 = some (3, 0) := by kernel_rfl
@[go_sem] theorem off55_1 : offT Try.prog 55 1 = some 1 := by kernel_rfl
@[go_sem] theorem fo55_1 : ftoT Try.prog 55 1 = some (3, 1) := by kernel_rfl
@[go_sem] theorem off55_2 : offT Try.prog 55 2 = some 2 := by kernel_rfl
@[go_sem] theorem fo55_2 : ftoT Try.prog 55 2 = some (3, 2) := by kernel_rfl
@[go_sem] theorem off55_3 : offT Try.prog 55 3 = some 3 := by kernel_rfl
@[go_sem] theorem fo55_3 : ftoT Try.prog 55 3 = some (4, 3) := by kernel_rfl
@[go_sem] theorem pl55 : placesT Try.prog 55 = some [(0, 1), (1, 1), (2, 1), (3, 1)] := by kernel_rfl
@[go_sem] theorem eq55 : eqShape Try.prog 55 = some [.int .i64, .int .i64, .int .i64, .bool] := by kernel_rfl
@[go_sem] theorem sz57 : szT Try.prog 57 = some 1 := by kernel_rfl
@[go_sem] theorem ag57 : aggT Try.prog 57 = some false := by kernel_rfl
@[go_sem] theorem by57 : bytesT Try.prog 57 = some 8 := by kernel_rfl
@[go_sem] theorem sz58 : szT Try.prog 58 = some 1 := by kernel_rfl
@[go_sem] theorem ag58 : aggT Try.prog 58 = some false := by kernel_rfl
@[go_sem] theorem by58 : bytesT Try.prog 58 = some 8 := by kernel_rfl
@[go_sem] theorem sz59 : szT Try.prog 59 = some 1 := by kernel_rfl
@[go_sem] theorem ag59 : aggT Try.prog 59 = some false := by kernel_rfl
@[go_sem] theorem by59 : bytesT Try.prog 59 = some 8 := by kernel_rfl
@[go_sem] theorem sz60 : szT Try.prog 60 = some 1 := by kernel_rfl
@[go_sem] theorem ag60 : aggT Try.prog 60 = some false := by kernel_rfl
@[go_sem] theorem by60 : bytesT Try.prog 60 = some 8 := by kernel_rfl
@[go_sem] theorem sz62 : szT Try.prog 62 = some 1 := by kernel_rfl
@[go_sem] theorem ag62 : aggT Try.prog 62 = some false := by kernel_rfl
@[go_sem] theorem by62 : bytesT Try.prog 62 = some 8 := by kernel_rfl
@[go_sem] theorem sz63 : szT Try.prog 63 = some 1 := by kernel_rfl
@[go_sem] theorem ag63 : aggT Try.prog 63 = some false := by kernel_rfl
@[go_sem] theorem by63 : bytesT Try.prog 63 = some 8 := by kernel_rfl
@[go_sem] theorem sz64 : szT Try.prog 64 = some 1 := by kernel_rfl
@[go_sem] theorem ag64 : aggT Try.prog 64 = some false := by kernel_rfl
@[go_sem] theorem by64 : bytesT Try.prog 64 = some 24 := by kernel_rfl
@[go_sem] theorem zr64 : zeroT Try.prog 64 = some [.nil] := by kernel_rfl
@[go_sem] theorem sz65 : szT Try.prog 65 = some 1 := by kernel_rfl
@[go_sem] theorem ag65 : aggT Try.prog 65 = some false := by kernel_rfl
@[go_sem] theorem by65 : bytesT Try.prog 65 = some 8 := by kernel_rfl
@[go_sem] theorem sz66 : szT Try.prog 66 = some 1 := by kernel_rfl
@[go_sem] theorem ag66 : aggT Try.prog 66 = some false := by kernel_rfl
@[go_sem] theorem by66 : bytesT Try.prog 66 = some 24 := by kernel_rfl
@[go_sem] theorem zr66 : zeroT Try.prog 66 = some [.nil] := by kernel_rfl
@[go_sem] theorem sz67 : szT Try.prog 67 = some 1 := by kernel_rfl
@[go_sem] theorem ag67 : aggT Try.prog 67 = some false := by kernel_rfl
@[go_sem] theorem by67 : bytesT Try.prog 67 = some 8 := by kernel_rfl
@[go_sem] theorem sz68 : szT Try.prog 68 = some 1 := by kernel_rfl
@[go_sem] theorem ag68 : aggT Try.prog 68 = some false := by kernel_rfl
@[go_sem] theorem by68 : bytesT Try.prog 68 = some 8 := by kernel_rfl
@[go_sem] theorem sz69 : szT Try.prog 69 = some 1 := by kernel_rfl
@[go_sem] theorem ag69 : aggT Try.prog 69 = some false := by kernel_rfl
@[go_sem] theorem by69 : bytesT Try.prog 69 = some 8 := by kernel_rfl
@[go_sem] theorem sz70 : szT Try.prog 70 = some 1 := by kernel_rfl
@[go_sem] theorem ag70 : aggT Try.prog 70 = some false := by kernel_rfl
@[go_sem] theorem by70 : bytesT Try.prog 70 = some 8 := by kernel_rfl
@[go_sem] theorem sz71 : szT Try.prog 71 = some 1 := by kernel_rfl
@[go_sem] theorem ag71 : aggT Try.prog 71 = some false := by kernel_rfl
@[go_sem] theorem by71 : bytesT Try.prog 71 = some 8 := by kernel_rfl
@[go_sem] theorem sz72 : szT Try.prog 72 = some 1 := by kernel_rfl
@[go_sem] theorem ag72 : aggT Try.prog 72 = some false := by kernel_rfl
@[go_sem] theorem by72 : bytesT Try.prog 72 = some 8 := by kernel_rfl
@[go_sem] theorem sz73 : szT Try.prog 73 = some 2 := by kernel_rfl
@[go_sem] theorem ag73 : aggT Try.prog 73 = some true := by kernel_rfl
@[go_sem] theorem by73 : bytesT Try.prog 73 = some 16 := by kernel_rfl
@[go_sem] theorem zr73 : zeroT Try.prog 73 = some [.v (.int .i64 0), .v (.int .i64 0)] := by kernel_rfl
@[go_sem] theorem off73_0 : offT Try.prog 73 0 = some 0 := by kernel_rfl
@[go_sem] theorem fo73_0 : ftoT Try.prog 73 0 = some (3, 0) := by kernel_rfl
@[go_sem] theorem off73_1 : offT Try.prog 73 1 = some 1 := by kernel_rfl
@[go_sem] theorem fo73_1 : ftoT Try.prog 73 1 = some (3, 1) := by kernel_rfl
@[go_sem] theorem pl73 : placesT Try.prog 73 = some [(0, 1), (1, 1)] := by kernel_rfl
@[go_sem] theorem eq73 : eqShape Try.prog 73 = some [.int .i64, .int .i64] := by kernel_rfl
@[go_sem] theorem sz74 : szT Try.prog 74 = some 2 := by kernel_rfl
@[go_sem] theorem ag74 : aggT Try.prog 74 = some true := by kernel_rfl
@[go_sem] theorem by74 : bytesT Try.prog 74 = some 16 := by kernel_rfl
@[go_sem] theorem zr74 : zeroT Try.prog 74 = some [.v (.int .i64 0), .v (.int .i64 0)] := by kernel_rfl
@[go_sem] theorem off74_0 : offT Try.prog 74 0 = some 0 := by kernel_rfl
@[go_sem] theorem fo74_0 : ftoT Try.prog 74 0 = some (3, 0) := by kernel_rfl
@[go_sem] theorem off74_1 : offT Try.prog 74 1 = some 1 := by kernel_rfl
@[go_sem] theorem fo74_1 : ftoT Try.prog 74 1 = some (3, 1) := by kernel_rfl
@[go_sem] theorem pl74 : placesT Try.prog 74 = some [(0, 1), (1, 1)] := by kernel_rfl
@[go_sem] theorem eq74 : eqShape Try.prog 74 = some [.int .i64, .int .i64] := by kernel_rfl
@[go_sem] theorem sz75 : szT Try.prog 75 = some 1 := by kernel_rfl
@[go_sem] theorem ag75 : aggT Try.prog 75 = some false := by kernel_rfl
@[go_sem] theorem by75 : bytesT Try.prog 75 = some 8 := by kernel_rfl
@[go_sem] theorem sz76 : szT Try.prog 76 = some 1 := by kernel_rfl
@[go_sem] theorem ag76 : aggT Try.prog 76 = some false := by kernel_rfl
@[go_sem] theorem by76 : bytesT Try.prog 76 = some 8 := by kernel_rfl
@[go_sem] theorem sz77 : szT Try.prog 77 = some 1 := by kernel_rfl
@[go_sem] theorem ag77 : aggT Try.prog 77 = some false := by kernel_rfl
@[go_sem] theorem by77 : bytesT Try.prog 77 = some 8 := by kernel_rfl
@[go_sem] theorem sz78 : szT Try.prog 78 = some 4 := by kernel_rfl
@[go_sem] theorem ag78 : aggT Try.prog 78 = some true := by kernel_rfl
@[go_sem] theorem by78 : bytesT Try.prog 78 = some 32 := by kernel_rfl
@[go_sem] theorem zr78 : zeroT Try.prog 78 = some [.v (.int .i64 0), .v (.int .i64 0), .v (.int .i64 0), .v (.int .i64 0)] := by kernel_rfl
@[go_sem] theorem off78_0 : offT Try.prog 78 0 = some 0 := by kernel_rfl
@[go_sem] theorem fo78_0 : ftoT Try.prog 78 0 = some (3, 0) := by kernel_rfl
@[go_sem] theorem off78_1 : offT Try.prog 78 1 = some 1 := by kernel_rfl
@[go_sem] theorem fo78_1 : ftoT Try.prog 78 1 = some (3, 1) := by kernel_rfl
@[go_sem] theorem off78_2 : offT Try.prog 78 2 = some 2 := by kernel_rfl
@[go_sem] theorem fo78_2 : ftoT Try.prog 78 2 = some (3, 2) := by kernel_rfl
@[go_sem] theorem off78_3 : offT Try.prog 78 3 = some 3 := by kernel_rfl
@[go_sem] theorem fo78_3 : ftoT Try.prog 78 3 = some (2, 3) := by kernel_rfl
@[go_sem] theorem pl78 : placesT Try.prog 78 = some [(0, 1), (1, 1), (2, 1), (3, 1)] := by kernel_rfl
@[go_sem] theorem eq78 : eqShape Try.prog 78 = some [.int .i64, .int .i64, .int .i64, .int .i64] := by kernel_rfl
@[go_sem] theorem sz79 : szT Try.prog 79 = some 4 := by kernel_rfl
@[go_sem] theorem ag79 : aggT Try.prog 79 = some true := by kernel_rfl
@[go_sem] theorem by79 : bytesT Try.prog 79 = some 32 := by kernel_rfl
@[go_sem] theorem zr79 : zeroT Try.prog 79 = some [.v (.int .i64 0), .v (.int .i64 0), .v (.int .i64 0), .v (.int .i64 0)] := by kernel_rfl
@[go_sem] theorem off79_0 : offT Try.prog 79 0 = some 0 := by kernel_rfl
@[go_sem] theorem fo79_0 : ftoT Try.prog 79 0 = some (3, 0) := by kernel_rfl
@[go_sem] theorem off79_1 : offT Try.prog 79 1 = some 1 := by kernel_rfl
@[go_sem] theorem fo79_1 : ftoT Try.prog 79 1 = some (3, 1) := by kernel_rfl
@[go_sem] theorem off79_2 : offT Try.prog 79 2 = some 2 := by kernel_rfl
@[go_sem] theorem fo79_2 : ftoT Try.prog 79 2 = some (3, 2) := by kernel_rfl
@[go_sem] theorem off79_3 : offT Try.prog 79 3 = some 3 := by kernel_rfl
@[go_sem] theorem fo79_3 : ftoT Try.prog 79 3 = some (2, 3) := by kernel_rfl
@[go_sem] theorem pl79 : placesT Try.prog 79 = some [(0, 1), (1, 1), (2, 1), (3, 1)] := by kernel_rfl
@[go_sem] theorem eq79 : eqShape Try.prog 79 = some [.int .i64, .int .i64, .int .i64, .int .i64] := by kernel_rfl
@[go_sem] theorem sz80 : szT Try.prog 80 = some 1 := by kernel_rfl
@[go_sem] theorem ag80 : aggT Try.prog 80 = some false := by kernel_rfl
@[go_sem] theorem by80 : bytesT Try.prog 80 = some 24 := by kernel_rfl
@[go_sem] theorem zr80 : zeroT Try.prog 80 = some [.nil] := by kernel_rfl
@[go_sem] theorem sz82 : szT Try.prog 82 = some 1 := by kernel_rfl
@[go_sem] theorem ag82 : aggT Try.prog 82 = some false := by kernel_rfl
@[go_sem] theorem by82 : bytesT Try.prog 82 = some 8 := by kernel_rfl
@[go_sem] theorem sz83 : szT Try.prog 83 = some 1 := by kernel_rfl
@[go_sem] theorem ag83 : aggT Try.prog 83 = some false := by kernel_rfl
@[go_sem] theorem by83 : bytesT Try.prog 83 = some 8 := by kernel_rfl
@[go_sem] theorem sz84 : szT Try.prog 84 = some 1 := by kernel_rfl
@[go_sem] theorem ag84 : aggT Try.prog 84 = some false := by kernel_rfl
@[go_sem] theorem by84 : bytesT Try.prog 84 = some 8 := by kernel_rfl
@[go_sem] theorem sz86 : szT Try.prog 86 = some 1 := by kernel_rfl
@[go_sem] theorem ag86 : aggT Try.prog 86 = some false := by kernel_rfl
@[go_sem] theorem by86 : bytesT Try.prog 86 = some 8 := by kernel_rfl
@[go_sem] theorem sz87 : szT Try.prog 87 = some 1 := by kernel_rfl
@[go_sem] theorem ag87 : aggT Try.prog 87 = some false := by kernel_rfl
@[go_sem] theorem by87 : bytesT Try.prog 87 = some 24 := by kernel_rfl
@[go_sem] theorem zr87 : zeroT Try.prog 87 = some [.nil] := by kernel_rfl
@[go_sem] theorem sz88 : szT Try.prog 88 = some 4 := by kernel_rfl
@[go_sem] theorem ag88 : aggT Try.prog 88 = some true := by kernel_rfl
@[go_sem] theorem by88 : bytesT Try.prog 88 = some 32 := by kernel_rfl
@[go_sem] theorem zr88 : zeroT Try.prog 88 = some [.v (.int .i64 0), .v (.int .i64 0), .v (.int .i64 0), .v (.int .i64 0)] := by kernel_rfl
@[go_sem] theorem pl88 : placesT Try.prog 88 = some [(0, 1), (1, 1), (2, 1), (3, 1)] := by kernel_rfl
@[go_sem] theorem eq88 : eqShape Try.prog 88 = some [.int .i64, .int .i64, .int .i64, .int .i64] := by kernel_rfl
@[go_sem] theorem sz89 : szT Try.prog 89 = some 2 := by kernel_rfl
@[go_sem] theorem ag89 : aggT Try.prog 89 = some true := by kernel_rfl
@[go_sem] theorem by89 : bytesT Try.prog 89 = some 16 := by kernel_rfl
@[go_sem] theorem zr89 : zeroT Try.prog 89 = some [.v (.int .i64 0), .v (.int .i64 0)] := by kernel_rfl
@[go_sem] theorem pl89 : placesT Try.prog 89 = some [(0, 1), (1, 1)] := by kernel_rfl
@[go_sem] theorem eq89 : eqShape Try.prog 89 = some [.int .i64, .int .i64] := by kernel_rfl
@[go_sem] theorem sz90 : szT Try.prog 90 = some 10 := by kernel_rfl
@[go_sem] theorem ag90 : aggT Try.prog 90 = some true := by kernel_rfl
@[go_sem] theorem by90 : bytesT Try.prog 90 = some 112 := by kernel_rfl
@[go_sem] theorem zr90 : zeroT Try.prog 90 = some [.v (.int .i64 0), .v (.int .i64 0), .nil, .nil, .v (.int .i64 0), .v (.int .i64 0), .v (.int .i64 0), .v (.int .i64 0), .v (.int .i64 0), .v (.int .i64 0)] := by kernel_rfl
@[go_sem] theorem off90_0 : offT Try.prog 90 0 = some 0 := by kernel_rfl
@[go_sem] theorem fo90_0 : ftoT Try.prog 90 0 = some (38, 0) := by kernel_rfl
@[go_sem] theorem off90_1 : offT Try.prog 90 1 = some 3 := by kernel_rfl
@[go_sem] theorem fo90_1 : ftoT Try.prog 90 1 = some (87, 3) := by kernel_rfl
@[go_sem] theorem off90_2 : offT Try.prog 90 2 = some 4 := by kernel_rfl
@[go_sem] theorem fo90_2 : ftoT Try.prog 90 2 = some (88, 4) := by kernel_rfl
@[go_sem] theorem off90_3 : offT Try.prog 90 3 = some 8 := by kernel_rfl
@[go_sem] theorem fo90_3 : ftoT Try.prog 90 3 = some (89, 8) := by kernel_rfl
@[go_sem] theorem pl90 : placesT Try.prog 90 = some [(0, 3), (3, 1), (4, 4), (8, 2)] := by kernel_rfl
@[go_sem] theorem sz91 : szT Try.prog 91 = some 10 := by kernel_rfl
@[go_sem] theorem ag91 : aggT Try.prog 91 = some true := by kernel_rfl
@[go_sem] theorem by91 : bytesT Try.prog 91 = some 112 := by kernel_rfl
@[go_sem] theorem zr91 : zeroT Try.prog 91 = some [.v (.int .i64 0), .v (.int .i64 0), .nil, .nil, .v (.int .i64 0), .v (.int .i64 0), .v (.int .i64 0), .v (.int .i64 0), .v (.int .i64 0), .v (.int .i64 0)] := by kernel_rfl
@[go_sem] theorem off91_0 : offT Try.prog 91 0 = some 0 := by kernel_rfl
@[go_sem] theorem fo91_0 : ftoT Try.prog 91 0 = some (38, 0) := by kernel_rfl
@[go_sem] theorem off91_1 : offT Try.prog 91 1 = some 3 := by kernel_rfl
@[go_sem] theorem fo91_1 : ftoT Try.prog 91 1 = some (87, 3) := by kernel_rfl
@[go_sem] theorem off91_2 : offT Try.prog 91 2 = some 4 := by kernel_rfl
@[go_sem] theorem fo91_2 : ftoT Try.prog 91 2 = some (88, 4) := by kernel_rfl
@[go_sem] theorem off91_3 : offT Try.prog 91 3 = some 8 := by kernel_rfl
@[go_sem] theorem fo91_3 : ftoT Try.prog 91 3 = some (89, 8) := by kernel_rfl
@[go_sem] theorem pl91 : placesT Try.prog 91 = some [(0, 3), (3, 1), (4, 4), (8, 2)] := by kernel_rfl
@[go_sem] theorem sz93 : szT Try.prog 93 = some 1 := by kernel_rfl
@[go_sem] theorem ag93 : aggT Try.prog 93 = some false := by kernel_rfl
@[go_sem] theorem by93 : bytesT Try.prog 93 = some 8 := by kernel_rfl
@[go_sem] theorem sz94 : szT Try.prog 94 = some 2 := by kernel_rfl
@[go_sem] theorem ag94 : aggT Try.prog 94 = some true := by kernel_rfl
@[go_sem] theorem by94 : bytesT Try.prog 94 = some 16 := by kernel_rfl
@[go_sem] theorem zr94 : zeroT Try.prog 94 = some [.v (.int .i64 0), .v (.int .i64 0)] := by kernel_rfl
@[go_sem] theorem pl94 : placesT Try.prog 94 = some [(0, 1), (1, 1)] := by kernel_rfl
@[go_sem] theorem eq94 : eqShape Try.prog 94 = some [.int .i64, .int .i64] := by kernel_rfl
@[go_sem] theorem sz95 : szT Try.prog 95 = some 4 := by kernel_rfl
@[go_sem] theorem ag95 : aggT Try.prog 95 = some true := by kernel_rfl
@[go_sem] theorem by95 : bytesT Try.prog 95 = some 32 := by kernel_rfl
@[go_sem] theorem zr95 : zeroT Try.prog 95 = some [.v (.int .i64 0), .v (.int .i64 0), .v (.int .i64 0), .v (.int .i64 0)] := by kernel_rfl
@[go_sem] theorem off95_0 : offT Try.prog 95 0 = some 0 := by kernel_rfl
@[go_sem] theorem fo95_0 : ftoT Try.prog 95 0 = some (3, 0) := by kernel_rfl
@[go_sem] theorem off95_1 : offT Try.prog 95 1 = some 1 := by kernel_rfl
@[go_sem] theorem fo95_1 : ftoT Try.prog 95 1 = some (3, 1) := by kernel_rfl
@[go_sem] theorem off95_2 : offT Try.prog 95 2 = some 2 := by kernel_rfl
@[go_sem] theorem fo95_2 : ftoT Try.prog 95 2 = some (94, 2) := by kernel_rfl
@[go_sem] theorem pl95 : placesT Try.prog 95 = some [(0, 1), (1, 1), (2, 2)] := by kernel_rfl
@[go_sem] theorem sz96 : szT Try.prog 96 = some 4 := by kernel_rfl
@[go_sem] theorem ag96 : aggT Try.prog 96 = some true := by kernel_rfl
@[go_sem] theorem by96 : bytesT Try.prog 96 = some 32 := by kernel_rfl
@[go_sem] theorem zr96 : zeroT Try.prog 96 = some [.v (.int .i64 0), .v (.int .i64 0), .v (.int .i64 0), .v (.int .i64 0)] := by kernel_rfl
@[go_sem] theorem off96_0 : offT Try.prog 96 0 = some 0 := by kernel_rfl
@[go_sem] theorem fo96_0 : ftoT Try.prog 96 0 = some (3, 0) := by kernel_rfl
@[go_sem] theorem off96_1 : offT Try.prog 96 1 = some 1 := by kernel_rfl
@[go_sem] theorem fo96_1 : ftoT Try.prog 96 1 = some (3, 1) := by kernel_rfl
@[go_sem] theorem off96_2 : offT Try.prog 96 2 = some 2 := by kernel_rfl
@[go_sem] theorem fo96_2 : ftoT Try.prog 96 2 = some (94, 2) := by kernel_rfl
@[go_sem] theorem pl96 : placesT Try.prog 96 = some [(0, 1), (1, 1), (2, 2)] := by kernel_rfl
@[go_sem] theorem sz97 : szT Try.prog 97 = some 1 := by kernel_rfl
@[go_sem] theorem ag97 : aggT Try.prog 97 = some false := by kernel_rfl
@[go_sem] theorem by97 : bytesT Try.prog 97 = some 8 := by kernel_rfl
@[go_sem] theorem sz98 : szT Try.prog 98 = some 1 := by kernel_rfl
@[go_sem] theorem ag98 : aggT Try.prog 98 = some false := by kernel_rfl
@[go_sem] theorem by98 : bytesT Try.prog 98 = some 8 := by kernel_rfl
@[go_sem] theorem sz99 : szT Try.prog 99 = some 1 := by kernel_rfl
@[go_sem] theorem ag99 : aggT Try.prog 99 = some false := by kernel_rfl
@[go_sem] theorem by99 : bytesT Try.prog 99 = some 8 := by kernel_rfl
@[go_sem] theorem sz100 : szT Try.prog 100 = some 2 := by kernel_rfl
@[go_sem] theorem ag100 : aggT Try.prog 100 = some true := by kernel_rfl
@[go_sem] theorem by100 : bytesT Try.prog 100 = some 16 := by kernel_rfl
@[go_sem] theorem zr100 : zeroT Try.prog 100 = some [.v (.int .i64 0), .v (.int .i64 0)] := by kernel_rfl
@[go_sem] theorem off100_0 : offT Try.prog 100 0 = some 0 := by kernel_rfl
@[go_sem] theorem fo100_0 : ftoT Try.prog 100 0 = some (3, 0) := by kernel_rfl
@[go_sem] theorem off100_1 : offT Try.prog 100 1 = some 1 := by kernel_rfl
@[go_sem] theorem fo100_1 : ftoT Try.prog 100 1 = some (3, 1) := by kernel_rfl
@[go_sem] theorem pl100 : placesT Try.prog 100 = some [(0, 1), (1, 1)] := by kernel_rfl
@[go_sem] theorem eq100 : eqShape Try.prog 100 = some [.int .i64, .int .i64] := by kernel_rfl
@[go_sem] theorem sz101 : szT Try.prog 101 = some 1 := by kernel_rfl
@[go_sem] theorem ag101 : aggT Try.prog 101 = some false := by kernel_rfl
@[go_sem] theorem by101 : bytesT Try.prog 101 = some 8 := by kernel_rfl
@[go_sem] theorem sz102 : szT Try.prog 102 = some 1 := by kernel_rfl
@[go_sem] theorem ag102 : aggT Try.prog 102 = some false := by kernel_rfl
@[go_sem] theorem by102 : bytesT Try.prog 102 = some 8 := by kernel_rfl
@[go_sem] theorem sz103 : szT Try.prog 103 = some 1 := by kernel_rfl
@[go_sem] theorem ag103 : aggT Try.prog 103 = some false := by kernel_rfl
@[go_sem] theorem by103 : bytesT Try.prog 103 = some 24 := by kernel_rfl
@[go_sem] theorem zr103 : zeroT Try.prog 103 = some [.nil] := by kernel_rfl
@[go_sem] theorem sz104 : szT Try.prog 104 = some 10 := by kernel_rfl
@[go_sem] theorem ag104 : aggT Try.prog 104 = some true := by kernel_rfl
@[go_sem] theorem by104 : bytesT Try.prog 104 = some 112 := by kernel_rfl
@[go_sem] theorem zr104 : zeroT Try.prog 104 = some [.v (.int .i64 0), .v (.int .i64 0), .nil, .nil, .v (.int .i64 0), .v (.int .i64 0), .v (.int .i64 0), .v (.int .i64 0), .v (.int .i64 0), .v (.int .i64 0)] := by kernel_rfl
@[go_sem] theorem off104_0 : offT Try.prog 104 0 = some 0 := by kernel_rfl
@[go_sem] theorem fo104_0 : ftoT Try.prog 104 0 = some (38, 0) := by kernel_rfl
@[go_sem] theorem off104_1 : offT Try.prog 104 1 = some 3 := by kernel_rfl
@[go_sem] theorem fo104_1 : ftoT Try.prog 104 1 = some (103, 3) := by kernel_rfl
@[go_sem] theorem off104_2 : offT Try.prog 104 2 = some 4 := by kernel_rfl
@[go_sem] theorem fo104_2 : ftoT Try.prog 104 2 = some (88, 4) := by kernel_rfl
@[go_sem] theorem off104_3 : offT Try.prog 104 3 = some 8 := by kernel_rfl
@[go_sem] theorem fo104_3 : ftoT Try.prog 104 3 = some (89, 8) := by kernel_rfl
@[go_sem] theorem pl104 : placesT Try.prog 104 = some [(0, 3), (3, 1), (4, 4), (8, 2)] := by kernel_rfl
@[go_sem] theorem sz105 : szT Try.prog 105 = some 10 := by kernel_rfl
@[go_sem] theorem ag105 : aggT Try.prog 105 = some true := by kernel_rfl
@[go_sem] theorem by105 : bytesT Try.prog 105 = some 112 := by kernel_rfl
@[go_sem] theorem zr105 : zeroT Try.prog 105 = some [.v (.int .i64 0), .v (.int .i64 0), .nil, .nil, .v (.int .i64 0), .v (.int .i64 0), .v (.int .i64 0), .v (.int .i64 0), .v (.int .i64 0), .v (.int .i64 0)] := by kernel_rfl
@[go_sem] theorem off105_0 : offT Try.prog 105 0 = some 0 := by kernel_rfl
@[go_sem] theorem fo105_0 : ftoT Try.prog 105 0 = some (38, 0) := by kernel_rfl
@[go_sem] theorem off105_1 : offT Try.prog 105 1 = some 3 := by kernel_rfl
@[go_sem] theorem fo105_1 : ftoT Try.prog 105 1 = some (103, 3) := by kernel_rfl
@[go_sem] theorem off105_2 : offT Try.prog 105 2 = some 4 := by kernel_rfl
@[go_sem] theorem fo105_2 : ftoT Try.prog 105 2 = some (88, 4) := by kernel_rfl
@[go_sem] theorem off105_3 : offT Try.prog 105 3 = some 8 := by kernel_rfl
@[go_sem] theorem fo105_3 : ftoT Try.prog 105 3 = some (89, 8) := by kernel_rfl
@[go_sem] theorem pl105 : placesT Try.prog 105 = some [(0, 3), (3, 1), (4, 4), (8, 2)] := by kernel_rfl
@[go_sem] theorem sz106 : szT Try.prog 106 = some 1 := by kernel_rfl
@[go_sem] theorem ag106 : aggT Try.prog 106 = some false := by kernel_rfl
@[go_sem] theorem by106 : bytesT Try.prog 106 = some 8 := by kernel_rfl
@[go_sem] theorem sz107 : szT Try.prog 107 = some 1 := by kernel_rfl
@[go_sem] theorem ag107 : aggT Try.prog 107 = some false := by kernel_rfl
@[go_sem] theorem by107 : bytesT Try.prog 107 = some 8 := by kernel_rfl
@[go_sem] theorem zr107 : zeroT Try.prog 107 = some [.v (.map none)] := by kernel_rfl
@[go_sem] theorem sz108 : szT Try.prog 108 = some 1 := by kernel_rfl
@[go_sem] theorem ag108 : aggT Try.prog 108 = some false := by kernel_rfl
@[go_sem] theorem by108 : bytesT Try.prog 108 = some 8 := by kernel_rfl
@[go_sem] theorem zr108 : zeroT Try.prog 108 = some [.v (.map none)] := by kernel_rfl
@[go_sem] theorem sz109 : szT Try.prog 109 = some 1 := by kernel_rfl
@[go_sem] theorem ag109 : aggT Try.prog 109 = some false := by kernel_rfl
@[go_sem] theorem by109 : bytesT Try.prog 109 = some 24 := by kernel_rfl
@[go_sem] theorem zr109 : zeroT Try.prog 109 = some [.nil] := by kernel_rfl
@[go_sem] theorem sz110 : szT Try.prog 110 = some 1 := by kernel_rfl
@[go_sem] theorem ag110 : aggT Try.prog 110 = some false := by kernel_rfl
@[go_sem] theorem by110 : bytesT Try.prog 110 = some 8 := by kernel_rfl
@[go_sem] theorem sz111 : szT Try.prog 111 = some 4 := by kernel_rfl
@[go_sem] theorem ag111 : aggT Try.prog 111 = some true := by kernel_rfl
@[go_sem] theorem by111 : bytesT Try.prog 111 = some 32 := by kernel_rfl
@[go_sem] theorem zr111 : zeroT Try.prog 111 = some [.v (.int .i64 0), .v (.int .i64 0), .v (.int .i64 0), .v (.int .i64 0)] := by kernel_rfl
@[go_sem] theorem pl111 : placesT Try.prog 111 = some [(0, 1), (1, 1), (2, 1), (3, 1)] := by kernel_rfl
@[go_sem] theorem eq111 : eqShape Try.prog 111 = some [.int .i64, .int .i64, .int .i64, .int .i64] := by kernel_rfl
@[go_sem] theorem sz112 : szT Try.prog 112 = some 2 := by kernel_rfl
@[go_sem] theorem ag112 : aggT Try.prog 112 = some true := by kernel_rfl
@[go_sem] theorem by112 : bytesT Try.prog 112 = some 16 := by kernel_rfl
@[go_sem] theorem zr112 : zeroT Try.prog 112 = some [.v (.int .i64 0), .v (.int .i64 0)] := by kernel_rfl
@[go_sem] theorem off112_0 : offT Try.prog 112 0 = some 0 := by kernel_rfl
@[go_sem] theorem fo112_0 : ftoT Try.prog 112 0 = some (3, 0) := by kernel_rfl
@[go_sem] theorem off112_1 : offT Try.prog 112 1 = some 1 := by kernel_rfl
@[go_sem] theorem fo112_1 : ftoT Try.prog 112 1 = some (3, 1) := by kernel_rfl
@[go_sem] theorem pl112 : placesT Try.prog 112 = some [(0, 1), (1, 1)] := by kernel_rfl
@[go_sem] theorem eq112 : eqShape Try.prog 112 = some [.int .i64, .int .i64] := by kernel_rfl
@[go_sem] theorem sz113 : szT Try.prog 113 = some 2 := by kernel_rfl
@[go_sem] theorem ag113 : aggT Try.prog 113 = some true := by kernel_rfl
@[go_sem] theorem by113 : bytesT Try.prog 113 = some 16 := by kernel_rfl
@[go_sem] theorem zr113 : zeroT Try.prog 113 = some [.v (.int .i64 0), .v (.int .i64 0)] := by kernel_rfl
@[go_sem] theorem off113_0 : offT Try.prog 113 0 = some 0 := by kernel_rfl
@[go_sem] theorem fo113_0 : ftoT Try.prog 113 0 = some (3, 0) := by kernel_rfl
@[go_sem] theorem off113_1 : offT Try.prog 113 1 = some 1 := by kernel_rfl
@[go_sem] theorem fo113_1 : ftoT Try.prog 113 1 = some (3, 1) := by kernel_rfl
@[go_sem] theorem pl113 : placesT Try.prog 113 = some [(0, 1), (1, 1)] := by kernel_rfl
@[go_sem] theorem eq113 : eqShape Try.prog 113 = some [.int .i64, .int .i64] := by kernel_rfl
@[go_sem] theorem sz114 : szT Try.prog 114 = some 1 := by kernel_rfl
@[go_sem] theorem ag114 : aggT Try.prog 114 = some false := by kernel_rfl
@[go_sem] theorem by114 : bytesT Try.prog 114 = some 8 := by kernel_rfl
@[go_sem] theorem sz115 : szT Try.prog 115 = some 4 := by kernel_rfl
@[go_sem] theorem ag115 : aggT Try.prog 115 = some true := by kernel_rfl
@[go_sem] theorem by115 : bytesT Try.prog 115 = some 32 := by kernel_rfl
@[go_sem] theorem zr115 : zeroT Try.prog 115 = some [.v (.int .i64 0), .v (.int .i64 0), .v (.int .i64 0), .v (.int .i64 0)] := by kernel_rfl
@[go_sem] theorem off115_0 : offT Try.prog 115 0 = some 0 := by kernel_rfl
@[go_sem] theorem fo115_0 : ftoT Try.prog 115 0 = some (3, 0) := by kernel_rfl
@[go_sem] theorem off115_1 : offT Try.prog 115 1 = some 1 := by kernel_rfl
@[go_sem] theorem fo115_1 : ftoT Try.prog 115 1 = some (3, 1) := by kernel_rfl
@[go_sem] theorem off115_2 : offT Try.prog 115 2 = some 2 := by kernel_rfl
@[go_sem] theorem fo115_2 : ftoT Try.prog 115 2 = some (94, 2) := by kernel_rfl
@[go_sem] theorem pl115 : placesT Try.prog 115 = some [(0, 1), (1, 1), (2, 2)] := by kernel_rfl
@[go_sem] theorem sz116 : szT Try.prog 116 = some 4 := by kernel_rfl
@[go_sem] theorem ag116 : aggT Try.prog 116 = some true := by kernel_rfl
@[go_sem] theorem by116 : bytesT Try.prog 116 = some 32 := by kernel_rfl
@[go_sem] theorem zr116 : zeroT Try.prog 116 = some [.v (.int .i64 0), .v (.int .i64 0), .v (.int .i64 0), .v (.int .i64 0)] := by kernel_rfl
@[go_sem] theorem off116_0 : offT Try.prog 116 0 = some 0 := by kernel_rfl
@[go_sem] theorem fo116_0 : ftoT Try.prog 116 0 = some (3, 0) := by kernel_rfl
@[go_sem] theorem off116_1 : offT Try.prog 116 1 = some 1 := by kernel_rfl
@[go_sem] theorem fo116_1 : ftoT Try.prog 116 1 = some (3, 1) := by kernel_rfl
@[go_sem] theorem off116_2 : offT Try.prog 116 2 = some 2 := by kernel_rfl
@[go_sem] theorem fo116_2 : ftoT Try.prog 116 2 = some (94, 2) := by kernel_rfl
@[go_sem] theorem pl116 : placesT Try.prog 116 = some [(0, 1), (1, 1), (2, 2)] := by kernel_rfl
@[go_sem] theorem sz117 : szT Try.prog 117 = some 1 := by kernel_rfl
@[go_sem] theorem ag117 : aggT Try.prog 117 = some false := by kernel_rfl
@[go_sem] theorem by117 : bytesT Try.prog 117 = some 8 := by kernel_rfl
@[go_sem] theorem zr117 : zeroT Try.prog 117 = some [.v (.pointer none)] := by kernel_rfl
@[go_sem] theorem sz118 : szT Try.prog 118 = some 1 := by kernel_rfl
@[go_sem] theorem ag118 : aggT Try.prog 118 = some false := by kernel_rfl
@[go_sem] theorem by118 : bytesT Try.prog 118 = some 8 := by kernel_rfl
@[go_sem] theorem zr118 : zeroT Try.prog 118 = some [.v (.pointer none)] := by kernel_rfl
@[go_sem] theorem sz119 : szT Try.prog 119 = some 1 := by kernel_rfl
@[go_sem] theorem ag119 : aggT Try.prog 119 = some false := by kernel_rfl
@[go_sem] theorem by119 : bytesT Try.prog 119 = some 8 := by kernel_rfl
@[go_sem] theorem sz120 : szT Try.prog 120 = some 1 := by kernel_rfl
@[go_sem] theorem ag120 : aggT Try.prog 120 = some false := by kernel_rfl
@[go_sem] theorem by120 : bytesT Try.prog 120 = some 8 := by kernel_rfl
@[go_sem] theorem sz121 : szT Try.prog 121 = some 9 := by kernel_rfl
@[go_sem] theorem ag121 : aggT Try.prog 121 = some true := by kernel_rfl
@[go_sem] theorem by121 : bytesT Try.prog 121 = some 72 := by kernel_rfl
@[go_sem] theorem zr121 : zeroT Try.prog 121 = some [.v .nilFunc, .v .nilFunc, .v .nilFunc, .v .nilFunc, .v .nilFunc, .v .nilFunc, .v .nilFunc, .v .nilFunc, .v .nilFunc] := by kernel_rfl
@[go_sem] theorem pl121 : placesT Try.prog 121 = some [(0, 1), (1, 1), (2, 1), (3, 1), (4, 1), (5, 1), (6, 1), (7, 1), (8, 1)] := by kernel_rfl
@[go_sem] theorem sz122 : szT Try.prog 122 = some 1 := by kernel_rfl
@[go_sem] theorem ag122 : aggT Try.prog 122 = some false := by kernel_rfl
@[go_sem] theorem by122 : bytesT Try.prog 122 = some 8 := by kernel_rfl
@[go_sem] theorem sz123 : szT Try.prog 123 = some 1 := by kernel_rfl
@[go_sem] theorem ag123 : aggT Try.prog 123 = some false := by kernel_rfl
@[go_sem] theorem by123 : bytesT Try.prog 123 = some 8 := by kernel_rfl
@[go_sem] theorem sz124 : szT Try.prog 124 = some 1 := by kernel_rfl
@[go_sem] theorem ag124 : aggT Try.prog 124 = some false := by kernel_rfl
@[go_sem] theorem by124 : bytesT Try.prog 124 = some 24 := by kernel_rfl
@[go_sem] theorem zr124 : zeroT Try.prog 124 = some [.nil] := by kernel_rfl
@[go_sem] theorem sz125 : szT Try.prog 125 = some 1 := by kernel_rfl
@[go_sem] theorem ag125 : aggT Try.prog 125 = some false := by kernel_rfl
@[go_sem] theorem by125 : bytesT Try.prog 125 = some 8 := by kernel_rfl
@[go_sem] theorem sz126 : szT Try.prog 126 = some 1 := by kernel_rfl
@[go_sem] theorem ag126 : aggT Try.prog 126 = some false := by kernel_rfl
@[go_sem] theorem by126 : bytesT Try.prog 126 = some 24 := by kernel_rfl
@[go_sem] theorem zr126 : zeroT Try.prog 126 = some [.nil] := by kernel_rfl
@[go_sem] theorem sz127 : szT Try.prog 127 = some 1 := by kernel_rfl
@[go_sem] theorem ag127 : aggT Try.prog 127 = some false := by kernel_rfl
@[go_sem] theorem by127 : bytesT Try.prog 127 = some 8 := by kernel_rfl
@[go_sem] theorem sz128 : szT Try.prog 128 = some 1 := by kernel_rfl
@[go_sem] theorem ag128 : aggT Try.prog 128 = some false := by kernel_rfl
@[go_sem] theorem by128 : bytesT Try.prog 128 = some 8 := by kernel_rfl
@[go_sem] theorem zr128 : zeroT Try.prog 128 = some [.v (.pointer none)] := by kernel_rfl
@[go_sem] theorem sz129 : szT Try.prog 129 = some 1 := by kernel_rfl
@[go_sem] theorem ag129 : aggT Try.prog 129 = some false := by kernel_rfl
@[go_sem] theorem by129 : bytesT Try.prog 129 = some 8 := by kernel_rfl
@[go_sem] theorem sz130 : szT Try.prog 130 = some 1 := by kernel_rfl
@[go_sem] theorem ag130 : aggT Try.prog 130 = some false := by kernel_rfl
@[go_sem] theorem by130 : bytesT Try.prog 130 = some 8 := by kernel_rfl
@[go_sem] theorem sz131 : szT Try.prog 131 = some 1 := by kernel_rfl
@[go_sem] theorem ag131 : aggT Try.prog 131 = some false := by kernel_rfl
@[go_sem] theorem by131 : bytesT Try.prog 131 = some 8 := by kernel_rfl
@[go_sem] theorem zr131 : zeroT Try.prog 131 = some [.v (.pointer none)] := by kernel_rfl
@[go_sem] theorem sz132 : szT Try.prog 132 = some 1 := by kernel_rfl
@[go_sem] theorem ag132 : aggT Try.prog 132 = some false := by kernel_rfl
@[go_sem] theorem by132 : bytesT Try.prog 132 = some 8 := by kernel_rfl
@[go_sem] theorem sz133 : szT Try.prog 133 = some 1 := by kernel_rfl
@[go_sem] theorem ag133 : aggT Try.prog 133 = some false := by kernel_rfl
@[go_sem] theorem by133 : bytesT Try.prog 133 = some 8 := by kernel_rfl
@[go_sem] theorem sz134 : szT Try.prog 134 = some 1 := by kernel_rfl
@[go_sem] theorem ag134 : aggT Try.prog 134 = some false := by kernel_rfl
@[go_sem] theorem by134 : bytesT Try.prog 134 = some 8 := by kernel_rfl
@[go_sem] theorem sz135 : szT Try.prog 135 = some 1 := by kernel_rfl
@[go_sem] theorem ag135 : aggT Try.prog 135 = some false := by kernel_rfl
@[go_sem] theorem by135 : bytesT Try.prog 135 = some 8 := by kernel_rfl
@[go_sem] theorem sz136 : szT Try.prog 136 = some 1 := by kernel_rfl
@[go_sem] theorem ag136 : aggT Try.prog 136 = some false := by kernel_rfl
@[go_sem] theorem by136 : bytesT Try.prog 136 = some 8 := by kernel_rfl
@[go_sem] theorem sz137 : szT Try.prog 137 = some 1 := by kernel_rfl
@[go_sem] theorem ag137 : aggT Try.prog 137 = some false := by kernel_rfl
@[go_sem] theorem by137 : bytesT Try.prog 137 = some 8 := by kernel_rfl
@[go_sem] theorem sz138 : szT Try.prog 138 = some 1 := by kernel_rfl
@[go_sem] theorem ag138 : aggT Try.prog 138 = some false := by kernel_rfl
@[go_sem] theorem by138 : bytesT Try.prog 138 = some 8 := by kernel_rfl
@[go_sem] theorem sz139 : szT Try.prog 139 = some 1 := by kernel_rfl
@[go_sem] theorem ag139 : aggT Try.prog 139 = some false := by kernel_rfl
@[go_sem] theorem by139 : bytesT Try.prog 139 = some 8 := by kernel_rfl
@[go_sem] theorem sz145 : szT Try.prog 145 = some 1 := by kernel_rfl
@[go_sem] theorem ag145 : aggT Try.prog 145 = some false := by kernel_rfl
@[go_sem] theorem by145 : bytesT Try.prog 145 = some 4 := by kernel_rfl
@[go_sem] theorem zr145 : zeroT Try.prog 145 = some [.v (.int .u32 0)] := by kernel_rfl
@[go_sem] theorem sz149 : szT Try.prog 149 = some 1 := by kernel_rfl
@[go_sem] theorem ag149 : aggT Try.prog 149 = some false := by kernel_rfl
@[go_sem] theorem by149 : bytesT Try.prog 149 = some 8 := by kernel_rfl
@[go_sem] theorem zr149 : zeroT Try.prog 149 = some [.v (.pointer none)] := by kernel_rfl
attribute [go_sem] Try.underlying1 Try.underlying2 Try.underlying3 Try.underlying4 Try.underlying5 Try.underlying9 Try.underlying21 Try.underlying22 Try.underlying23 Try.underlying24 Try.underlying25 Try.underlying26 Try.underlying27 Try.underlying28 Try.underlying29 Try.underlying30 Try.underlying31 Try.underlying32 Try.underlying33 Try.underlying34 Try.underlying35 Try.underlying36 Try.underlying37 Try.underlying38 Try.underlying39 Try.underlying40 Try.underlying41 Try.underlying42 Try.underlying44 Try.underlying45 Try.underlying47 Try.underlying48 Try.underlying49 Try.underlying50 Try.underlying51 Try.underlying52 Try.underlying53 Try.underlying54 Try.underlying55 Try.underlying57 Try.underlying58 Try.underlying59 Try.underlying60 Try.underlying62 Try.underlying63 Try.underlying64 Try.underlying65 Try.underlying66 Try.underlying67 Try.underlying68 Try.underlying69 Try.underlying70 Try.underlying71 Try.underlying72 Try.underlying73 Try.underlying74 Try.underlying75 Try.underlying76 Try.underlying77 Try.underlying78 Try.underlying79 Try.underlying80 Try.underlying82 Try.underlying83 Try.underlying84 Try.underlying86 Try.underlying87 Try.underlying88 Try.underlying89 Try.underlying90 Try.underlying91 Try.underlying93 Try.underlying94 Try.underlying95 Try.underlying96 Try.underlying97 Try.underlying98 Try.underlying99 Try.underlying100 Try.underlying101 Try.underlying102 Try.underlying103 Try.underlying104 Try.underlying105 Try.underlying106 Try.underlying107 Try.underlying108 Try.underlying109 Try.underlying110 Try.underlying111 Try.underlying112 Try.underlying113 Try.underlying114 Try.underlying115 Try.underlying116 Try.underlying117 Try.underlying118 Try.underlying119 Try.underlying120 Try.underlying121 Try.underlying122 Try.underlying123 Try.underlying124 Try.underlying125 Try.underlying126 Try.underlying127 Try.underlying128 Try.underlying129 Try.underlying130 Try.underlying131 Try.underlying132 Try.underlying133 Try.underlying134 Try.underlying135 Try.underlying136 Try.underlying137 Try.underlying138 Try.underlying139 Try.underlying145 Try.underlying149

theorem mixed : Try.prog.follows .mixedOrders = true := by kernel_rfl
theorem known3 : Known Try.prog 3 := ⟨Try.f3, Try.func3, rfl, by kernel_rfl⟩   -- sinnet/sinnetlaw08.SleepSets
theorem res3 : Try.f3.results = List.toArray [ResultVar.tmp 8] := rfl
theorem known4 : Known Try.prog 4 := ⟨Try.f4, Try.func4, rfl, by kernel_rfl⟩   -- sinnet/sinnetlaw08.SleepLaws
theorem res4 : Try.f4.results = List.toArray [ResultVar.tmp 6] := rfl
theorem known5 : Known Try.prog 5 := ⟨Try.f5, Try.func5, rfl, by kernel_rfl⟩   -- sinnet/sinnetlaw08.SleepTells
theorem res5 : Try.f5.results = List.toArray [ResultVar.tmp 12] := rfl
theorem known6 : Known Try.prog 6 := ⟨Try.f6, Try.func6, rfl, by kernel_rfl⟩   -- sinnet/sinnetlaw08.SleepSwap
theorem res6 : Try.f6.results = List.toArray [ResultVar.tmp 10] := rfl
theorem known7 : Known Try.prog 7 := ⟨Try.f7, Try.func7, rfl, by kernel_rfl⟩   -- sinnet/sinnetlaw08.SleepLess
theorem res7 : Try.f7.results = List.toArray [ResultVar.tmp 12] := rfl
theorem known8 : Known Try.prog 8 := ⟨Try.f8, Try.func8, rfl, by kernel_rfl⟩   -- sinnet/sinnetlaw07.RaceTells
theorem res8 : Try.f8.results = List.toArray [ResultVar.tmp 8] := rfl
theorem known9 : Known Try.prog 9 := ⟨Try.f9, Try.func9, rfl, by kernel_rfl⟩   -- sinnet/sinnetlaw07.RaceCuts
theorem res9 : Try.f9.results = List.toArray [ResultVar.tmp 4] := rfl
theorem known10 : Known Try.prog 10 := ⟨Try.f10, Try.func10, rfl, by kernel_rfl⟩   -- sinnet/sinnetlaw07.RaceDone
theorem res10 : Try.f10.results = List.toArray [ResultVar.tmp 8] := rfl
theorem known11 : Known Try.prog 11 := ⟨Try.f11, Try.func11, rfl, by kernel_rfl⟩   -- sinnet/sinnetlaw07.RaceSwaps
theorem res11 : Try.f11.results = List.toArray [ResultVar.tmp 4] := rfl
theorem known12 : Known Try.prog 12 := ⟨Try.f12, Try.func12, rfl, by kernel_rfl⟩   -- sinnet/sinnetlaw08.awake
theorem res12 : Try.f12.results = List.toArray [ResultVar.tmp 0] := rfl
theorem known13 : Known Try.prog 13 := ⟨Try.f13, Try.func13, rfl, by kernel_rfl⟩   -- sinnet/sinnetref08.Bits
theorem res13 : Try.f13.results = List.toArray [ResultVar.tmp 2] := rfl
theorem known14 : Known Try.prog 14 := ⟨Try.f14, Try.func14, rfl, by kernel_rfl⟩   -- (sinnet/sleep.Set).Has
theorem res14 : Try.f14.results = List.toArray [ResultVar.tmp 4] := rfl
theorem known15 : Known Try.prog 15 := ⟨Try.f15, Try.func15, rfl, by kernel_rfl⟩   -- sinnet/sinnetref08.In
theorem res15 : Try.f15.results = List.toArray [ResultVar.tmp 4] := rfl
theorem known16 : Known Try.prog 16 := ⟨Try.f16, Try.func16, rfl, by kernel_rfl⟩   -- (sinnet/sleep.Set).Union
theorem res16 : Try.f16.results = List.toArray [ResultVar.tmp 4] := rfl
theorem known17 : Known Try.prog 17 := ⟨Try.f17, Try.func17, rfl, by kernel_rfl⟩   -- (sinnet/sleep.Set).With
theorem res17 : Try.f17.results = List.toArray [ResultVar.tmp 4] := rfl
theorem known18 : Known Try.prog 18 := ⟨Try.f18, Try.func18, rfl, by kernel_rfl⟩   -- (sinnet/sleep.Set).Without
theorem res18 : Try.f18.results = List.toArray [ResultVar.tmp 4] := rfl
theorem known19 : Known Try.prog 19 := ⟨Try.f19, Try.func19, rfl, by kernel_rfl⟩   -- sinnet/sleep.Of
theorem res19 : Try.f19.results = List.toArray [ResultVar.tmp 2] := rfl
theorem known20 : Known Try.prog 20 := ⟨Try.f20, Try.func20, rfl, by kernel_rfl⟩   -- sinnet/sinnetref02.SameInts
theorem res20 : Try.f20.results = List.toArray [ResultVar.tmp 4] := rfl
theorem known21 : Known Try.prog 21 := ⟨Try.f21, Try.func21, rfl, by kernel_rfl⟩   -- (sinnet/sleep.Set).All
theorem res21 : Try.f21.results = List.toArray [ResultVar.tmp 2] := rfl
theorem known22 : Known Try.prog 22 := ⟨Try.f22, Try.func22, rfl, by kernel_rfl⟩   -- (sinnet/sleep.Set).Len
theorem res22 : Try.f22.results = List.toArray [ResultVar.tmp 2] := rfl
theorem known23 : Known Try.prog 23 := ⟨Try.f23, Try.func23, rfl, by kernel_rfl⟩   -- sinnet/sinnetref01.Few
theorem res23 : Try.f23.results = List.toArray [ResultVar.tmp 2] := rfl
theorem known24 : Known Try.prog 24 := ⟨Try.f24, Try.func24, rfl, by kernel_rfl⟩   -- sinnet/state.Replay
theorem res24 : Try.f24.results = List.toArray [ResultVar.tmp 6, ResultVar.tmp 7, ResultVar.tmp 8] := rfl
theorem known25 : Known Try.prog 25 := ⟨Try.f25, Try.func25, rfl, by kernel_rfl⟩   -- sinnet/sinnetref02.Replay
theorem res25 : Try.f25.results = List.toArray [ResultVar.tmp 6, ResultVar.tmp 7, ResultVar.tmp 8] := rfl
theorem known26 : Known Try.prog 26 := ⟨Try.f26, Try.func26, rfl, by kernel_rfl⟩   -- sinnet/sleep.Child
theorem res26 : Try.f26.results = List.toArray [ResultVar.tmp 8] := rfl
theorem known27 : Known Try.prog 27 := ⟨Try.f27, Try.func27, rfl, by kernel_rfl⟩   -- sinnet/sinnetref08.Child
theorem res27 : Try.f27.results = List.toArray [ResultVar.tmp 8] := rfl
theorem known28 : Known Try.prog 28 := ⟨Try.f28, Try.func28, rfl, by kernel_rfl⟩   -- sinnet/sleep.Blocked
theorem res28 : Try.f28.results = List.toArray [ResultVar.tmp 4] := rfl
theorem known29 : Known Try.prog 29 := ⟨Try.f29, Try.func29, rfl, by kernel_rfl⟩   -- sinnet/sinnetref08.Blocked
theorem res29 : Try.f29.results = List.toArray [ResultVar.tmp 4] := rfl
theorem known30 : Known Try.prog 30 := ⟨Try.f30, Try.func30, rfl, by kernel_rfl⟩   -- (*sinnet/state.State).Threads
theorem res30 : Try.f30.results = List.toArray [ResultVar.tmp 2] := rfl
theorem known31 : Known Try.prog 31 := ⟨Try.f31, Try.func31, rfl, by kernel_rfl⟩   -- (*sinnet/state.State).Next
theorem res31 : Try.f31.results = List.toArray [ResultVar.cell 4 55, ResultVar.tmp 5] := rfl
theorem known32 : Known Try.prog 32 := ⟨Try.f32, Try.func32, rfl, by kernel_rfl⟩   -- sinnet/event.Depends
theorem res32 : Try.f32.results = List.toArray [ResultVar.tmp 4] := rfl
theorem known33 : Known Try.prog 33 := ⟨Try.f33, Try.func33, rfl, by kernel_rfl⟩   -- (*sinnet/state.State).Enabled
theorem res33 : Try.f33.results = List.toArray [ResultVar.tmp 4] := rfl
theorem known34 : Known Try.prog 34 := ⟨Try.f34, Try.func34, rfl, by kernel_rfl⟩   -- (*sinnet/state.State).Copy
theorem res34 : Try.f34.results = List.toArray [ResultVar.tmp 2] := rfl
theorem known35 : Known Try.prog 35 := ⟨Try.f35, Try.func35, rfl, by kernel_rfl⟩   -- (*sinnet/state.State).Step
theorem res35 : Try.f35.results = List.toArray [ResultVar.cell 4 55, ResultVar.tmp 5] := rfl
theorem known36 : Known Try.prog 36 := ⟨Try.f36, Try.func36, rfl, by kernel_rfl⟩   -- sinnet/sinnetlaw07.awake
theorem res36 : Try.f36.results = List.toArray [ResultVar.tmp 0] := rfl
theorem known37 : Known Try.prog 37 := ⟨Try.f37, Try.func37, rfl, by kernel_rfl⟩   -- sinnet/sinnetref07.Same
theorem res37 : Try.f37.results = List.toArray [ResultVar.tmp 4] := rfl
theorem known38 : Known Try.prog 38 := ⟨Try.f38, Try.func38, rfl, by kernel_rfl⟩   -- sinnet/sinnetlaw07.like
theorem res38 : Try.f38.results = List.toArray [ResultVar.tmp 2] := rfl
theorem known39 : Known Try.prog 39 := ⟨Try.f39, Try.func39, rfl, by kernel_rfl⟩   -- sinnet/race.Reversible
theorem res39 : Try.f39.results = List.toArray [ResultVar.tmp 2] := rfl
theorem known40 : Known Try.prog 40 := ⟨Try.f40, Try.func40, rfl, by kernel_rfl⟩   -- sinnet/sinnetref07.Reversible
theorem res40 : Try.f40.results = List.toArray [ResultVar.tmp 2] := rfl
theorem known41 : Known Try.prog 41 := ⟨Try.f41, Try.func41, rfl, by kernel_rfl⟩   -- sinnet/race.Races
theorem res41 : Try.f41.results = List.toArray [ResultVar.tmp 4] := rfl
theorem known42 : Known Try.prog 42 := ⟨Try.f42, Try.func42, rfl, by kernel_rfl⟩   -- sinnet/sinnetref07.Races
theorem res42 : Try.f42.results = List.toArray [ResultVar.tmp 4] := rfl
theorem known43 : Known Try.prog 43 := ⟨Try.f43, Try.func43, rfl, by kernel_rfl⟩   -- sinnet/sinnetref04.Rows
theorem res43 : Try.f43.results = List.toArray [ResultVar.tmp 2] := rfl
theorem known44 : Known Try.prog 44 := ⟨Try.f44, Try.func44, rfl, by kernel_rfl⟩   -- sinnet/clock.Same
theorem res44 : Try.f44.results = List.toArray [ResultVar.tmp 4] := rfl
theorem known45 : Known Try.prog 45 := ⟨Try.f45, Try.func45, rfl, by kernel_rfl⟩   -- sinnet/state.New
theorem res45 : Try.f45.results = List.toArray [ResultVar.tmp 4, ResultVar.tmp 5] := rfl
theorem known46 : Known Try.prog 46 := ⟨Try.f46, Try.func46, rfl, by kernel_rfl⟩   -- sinnet/sleep.bit
theorem res46 : Try.f46.results = List.toArray [ResultVar.tmp 2] := rfl
theorem known47 : Known Try.prog 47 := ⟨Try.f47, Try.func47, rfl, by kernel_rfl⟩   -- math/bits.OnesCount8
theorem res47 : Try.f47.results = List.toArray [ResultVar.tmp 2] := rfl
theorem known48 : Known Try.prog 48 := ⟨Try.f48, Try.func48, rfl, by kernel_rfl⟩   -- sinnet/sinnetref02.New
theorem res48 : Try.f48.results = List.toArray [ResultVar.tmp 4] := rfl
theorem known49 : Known Try.prog 49 := ⟨Try.f49, Try.func49, rfl, by kernel_rfl⟩   -- (*sinnet/sinnetref02.State).Step
theorem res49 : Try.f49.results = List.toArray [ResultVar.cell 4 55, ResultVar.tmp 5] := rfl
theorem known50 : Known Try.prog 50 := ⟨Try.f50, Try.func50, rfl, by kernel_rfl⟩   -- (*sinnet/sinnetref02.State).Next
theorem res50 : Try.f50.results = List.toArray [ResultVar.cell 4 55, ResultVar.tmp 5] := rfl
theorem known51 : Known Try.prog 51 := ⟨Try.f51, Try.func51, rfl, by kernel_rfl⟩   -- sinnet/sinnetref03.Depends
theorem res51 : Try.f51.results = List.toArray [ResultVar.tmp 4] := rfl
theorem known52 : Known Try.prog 52 := ⟨Try.f52, Try.func52, rfl, by kernel_rfl⟩   -- (*sinnet/state.State).All
theorem res52 : Try.f52.results = List.toArray [ResultVar.tmp 2] := rfl
theorem known53 : Known Try.prog 53 := ⟨Try.f53, Try.func53, rfl, by kernel_rfl⟩   -- (*sinnet/sinnetref02.State).All
theorem res53 : Try.f53.results = List.toArray [ResultVar.tmp 2] := rfl
theorem known54 : Known Try.prog 54 := ⟨Try.f54, Try.func54, rfl, by kernel_rfl⟩   -- (*sinnet/state.State).instr
theorem res54 : Try.f54.results = List.toArray [ResultVar.cell 4 79, ResultVar.tmp 5] := rfl
theorem known55 : Known Try.prog 55 := ⟨Try.f55, Try.func55, rfl, by kernel_rfl⟩   -- sinnet/event.class
theorem res55 : Try.f55.results = List.toArray [ResultVar.tmp 2] := rfl
theorem known56 : Known Try.prog 56 := ⟨Try.f56, Try.func56, rfl, by kernel_rfl⟩   -- slices.Clone[[]sinnet/state.thread,sinnet/state.thread]
theorem res56 : Try.f56.results = List.toArray [ResultVar.tmp 2] := rfl
theorem known57 : Known Try.prog 57 := ⟨Try.f57, Try.func57, rfl, by kernel_rfl⟩   -- (*sinnet/state.State).is
theorem res57 : Try.f57.results = List.toArray [ResultVar.tmp 4] := rfl
theorem known58 : Known Try.prog 58 := ⟨Try.f58, Try.func58, rfl, by kernel_rfl⟩   -- (*sinnet/state.State).do
theorem res58 : Try.f58.results = List.toArray [] := rfl
theorem known59 : Known Try.prog 59 := ⟨Try.f59, Try.func59, rfl, by kernel_rfl⟩   -- sinnet/race.right
theorem res59 : Try.f59.results = List.toArray [ResultVar.tmp 2] := rfl
theorem known60 : Known Try.prog 60 := ⟨Try.f60, Try.func60, rfl, by kernel_rfl⟩   -- sinnet/race.with
theorem res60 : Try.f60.results = List.toArray [ResultVar.tmp 4] := rfl
theorem known61 : Known Try.prog 61 := ⟨Try.f61, Try.func61, rfl, by kernel_rfl⟩   -- sinnet/sinnetref07.With
theorem res61 : Try.f61.results = List.toArray [ResultVar.tmp 4] := rfl
theorem known62 : Known Try.prog 62 := ⟨Try.f62, Try.func62, rfl, by kernel_rfl⟩   -- sinnet/sinnetref03.Right
theorem res62 : Try.f62.results = List.toArray [ResultVar.tmp 2] := rfl
theorem known63 : Known Try.prog 63 := ⟨Try.f63, Try.func63, rfl, by kernel_rfl⟩   -- sinnet/clock.right
theorem res63 : Try.f63.results = List.toArray [ResultVar.tmp 2] := rfl
theorem known64 : Known Try.prog 64 := ⟨Try.f64, Try.func64, rfl, by kernel_rfl⟩   -- sinnet/clock.Clocks
theorem res64 : Try.f64.results = List.toArray [ResultVar.tmp 2] := rfl
theorem known65 : Known Try.prog 65 := ⟨Try.f65, Try.func65, rfl, by kernel_rfl⟩   -- sinnet/prog.Right
theorem res65 : Try.f65.results = List.toArray [ResultVar.tmp 2] := rfl
theorem known66 : Known Try.prog 66 := ⟨Try.f66, Try.func66, rfl, by kernel_rfl⟩   -- sinnet/prog.Copy
theorem res66 : Try.f66.results = List.toArray [ResultVar.cell 2 38] := rfl
theorem known67 : Known Try.prog 67 := ⟨Try.f67, Try.func67, rfl, by kernel_rfl⟩   -- sinnet/sinnetref01.Right
theorem res67 : Try.f67.results = List.toArray [ResultVar.tmp 2] := rfl
theorem known68 : Known Try.prog 68 := ⟨Try.f68, Try.func68, rfl, by kernel_rfl⟩   -- (*sinnet/sinnetref02.State).Enabled
theorem res68 : Try.f68.results = List.toArray [ResultVar.tmp 4] := rfl
theorem known69 : Known Try.prog 69 := ⟨Try.f69, Try.func69, rfl, by kernel_rfl⟩   -- (*sinnet/state.State).load
theorem res69 : Try.f69.results = List.toArray [] := rfl
theorem known70 : Known Try.prog 70 := ⟨Try.f70, Try.func70, rfl, by kernel_rfl⟩   -- (*sinnet/state.State).store
theorem res70 : Try.f70.results = List.toArray [] := rfl
theorem known71 : Known Try.prog 71 := ⟨Try.f71, Try.func71, rfl, by kernel_rfl⟩   -- (*sinnet/state.State).set
theorem res71 : Try.f71.results = List.toArray [] := rfl
theorem known72 : Known Try.prog 72 := ⟨Try.f72, Try.func72, rfl, by kernel_rfl⟩   -- (*sinnet/state.State).add
theorem res72 : Try.f72.results = List.toArray [] := rfl
theorem known73 : Known Try.prog 73 := ⟨Try.f73, Try.func73, rfl, by kernel_rfl⟩   -- (*sinnet/state.State).lock
theorem res73 : Try.f73.results = List.toArray [] := rfl
theorem known74 : Known Try.prog 74 := ⟨Try.f74, Try.func74, rfl, by kernel_rfl⟩   -- (*sinnet/state.State).unlock
theorem res74 : Try.f74.results = List.toArray [] := rfl
theorem known75 : Known Try.prog 75 := ⟨Try.f75, Try.func75, rfl, by kernel_rfl⟩   -- (*sinnet/state.State).jump
theorem res75 : Try.f75.results = List.toArray [] := rfl
theorem known76 : Known Try.prog 76 := ⟨Try.f76, Try.func76, rfl, by kernel_rfl⟩   -- (*sinnet/state.State).assert
theorem res76 : Try.f76.results = List.toArray [] := rfl
theorem known77 : Known Try.prog 77 := ⟨Try.f77, Try.func77, rfl, by kernel_rfl⟩   -- slices.ContainsFunc[[]sinnet/api.Event,sinnet/api.Event]
theorem res77 : Try.f77.results = List.toArray [ResultVar.tmp 4] := rfl
theorem known78 : Known Try.prog 78 := ⟨Try.f78, Try.func78, rfl, by kernel_rfl⟩   -- sinnet/race.right$1
theorem res78 : Try.f78.results = List.toArray [ResultVar.tmp 2] := rfl
theorem known79 : Known Try.prog 79 := ⟨Try.f79, Try.func79, rfl, by kernel_rfl⟩   -- sinnet/event.Right
theorem res79 : Try.f79.results = List.toArray [ResultVar.tmp 2] := rfl
theorem known80 : Known Try.prog 80 := ⟨Try.f80, Try.func80, rfl, by kernel_rfl⟩   -- sinnet/clock.Last
theorem res80 : Try.f80.results = List.toArray [ResultVar.cell 4 111] := rfl
theorem known81 : Known Try.prog 81 := ⟨Try.f81, Try.func81, rfl, by kernel_rfl⟩   -- sinnet/sinnetref04.Order
theorem res81 : Try.f81.results = List.toArray [ResultVar.tmp 2] := rfl
theorem known82 : Known Try.prog 82 := ⟨Try.f82, Try.func82, rfl, by kernel_rfl⟩   -- sinnet/clock.right$1
theorem res82 : Try.f82.results = List.toArray [ResultVar.tmp 2] := rfl
theorem known83 : Known Try.prog 83 := ⟨Try.f83, Try.func83, rfl, by kernel_rfl⟩   -- sinnet/clock.join
theorem res83 : Try.f83.results = List.toArray [] := rfl
theorem known84 : Known Try.prog 84 := ⟨Try.f84, Try.func84, rfl, by kernel_rfl⟩   -- sinnet/prog.within
theorem res84 : Try.f84.results = List.toArray [ResultVar.tmp 6] := rfl
theorem known85 : Known Try.prog 85 := ⟨Try.f85, Try.func85, rfl, by kernel_rfl⟩   -- sinnet/prog.Right$1
theorem res85 : Try.f85.results = List.toArray [ResultVar.tmp 4] := rfl
theorem known86 : Known Try.prog 86 := ⟨Try.f86, Try.func86, rfl, by kernel_rfl⟩   -- sinnet/prog.instr
theorem res86 : Try.f86.results = List.toArray [ResultVar.tmp 6] := rfl
theorem known87 : Known Try.prog 87 := ⟨Try.f87, Try.func87, rfl, by kernel_rfl⟩   -- slices.ContainsFunc[[]sinnet/api.Instr,sinnet/api.Instr]
theorem res87 : Try.f87.results = List.toArray [ResultVar.tmp 4] := rfl
theorem known88 : Known Try.prog 88 := ⟨Try.f88, Try.func88, rfl, by kernel_rfl⟩   -- slices.Clone[[][]sinnet/api.Instr,[]sinnet/api.Instr]
theorem res88 : Try.f88.results = List.toArray [ResultVar.tmp 2] := rfl
theorem known89 : Known Try.prog 89 := ⟨Try.f89, Try.func89, rfl, by kernel_rfl⟩   -- slices.Clone[[]sinnet/api.Instr,sinnet/api.Instr]
theorem res89 : Try.f89.results = List.toArray [ResultVar.tmp 2] := rfl
theorem known90 : Known Try.prog 90 := ⟨Try.f90, Try.func90, rfl, by kernel_rfl⟩   -- sinnet/sinnetref01.within
theorem res90 : Try.f90.results = List.toArray [ResultVar.tmp 6] := rfl
theorem known91 : Known Try.prog 91 := ⟨Try.f91, Try.func91, rfl, by kernel_rfl⟩   -- sinnet/sinnetref01.Instr
theorem res91 : Try.f91.results = List.toArray [ResultVar.tmp 6] := rfl
theorem known92 : Known Try.prog 92 := ⟨Try.f92, Try.func92, rfl, by kernel_rfl⟩   -- slices.IndexFunc[[]sinnet/api.Event,sinnet/api.Event]
theorem res92 : Try.f92.results = List.toArray [ResultVar.tmp 4] := rfl
theorem known93 : Known Try.prog 93 := ⟨Try.f93, Try.func93, rfl, by kernel_rfl⟩   -- slices.IndexFunc[[]sinnet/api.Instr,sinnet/api.Instr]
theorem res93 : Try.f93.results = List.toArray [ResultVar.tmp 4] := rfl
end Go.Proofs.Ytobdagjdhgjplaa
