/-
  Closed facts of this seat's program: types and functions. Written by a program (wip/tools/facts.py).
-/
import Derived.Test.YtcfeklnmampndaaProg
import Derived.KernelRfl
import Derived.Test.YtcfeklnmampndaaLibB
set_option maxRecDepth 100000
namespace Go.Proofs.Ytcfeklnmampndaa
open Go Go.Sn
@[go_sem] theorem sz1 : szT Try.prog 1 = some 1 := by kernel_rfl
@[go_sem] theorem ag1 : aggT Try.prog 1 = some false := by kernel_rfl
@[go_sem] theorem by1 : bytesT Try.prog 1 = some 8 := by kernel_rfl
@[go_sem] theorem sz2 : szT Try.prog 2 = some 1 := by kernel_rfl
@[go_sem] theorem ag2 : aggT Try.prog 2 = some false := by kernel_rfl
@[go_sem] theorem by2 : bytesT Try.prog 2 = some 8 := by kernel_rfl
@[go_sem] theorem zr2 : zeroT Try.prog 2 = some [.v (.int .i64 0)] := by kernel_rfl
@[go_sem] theorem sz3 : szT Try.prog 3 = some 1 := by kernel_rfl
@[go_sem] theorem ag3 : aggT Try.prog 3 = some false := by kernel_rfl
@[go_sem] theorem by3 : bytesT Try.prog 3 = some 8 := by kernel_rfl
@[go_sem] theorem zr3 : zeroT Try.prog 3 = some [.v (.int .i64 0)] := by kernel_rfl
@[go_sem] theorem sz4 : szT Try.prog 4 = some 1 := by kernel_rfl
@[go_sem] theorem ag4 : aggT Try.prog 4 = some false := by kernel_rfl
@[go_sem] theorem by4 : bytesT Try.prog 4 = some 1 := by kernel_rfl
@[go_sem] theorem zr4 : zeroT Try.prog 4 = some [.v (.bool false)] := by kernel_rfl
@[go_sem] theorem sz5 : szT Try.prog 5 = some 1 := by kernel_rfl
@[go_sem] theorem ag5 : aggT Try.prog 5 = some false := by kernel_rfl
@[go_sem] theorem by5 : bytesT Try.prog 5 = some 1 := by kernel_rfl
@[go_sem] theorem zr5 : zeroT Try.prog 5 = some [.v (.int .u8 0)] := by kernel_rfl
@[go_sem] theorem sz9 : szT Try.prog 9 = some 1 := by kernel_rfl
@[go_sem] theorem ag9 : aggT Try.prog 9 = some false := by kernel_rfl
@[go_sem] theorem by9 : bytesT Try.prog 9 = some 16 := by kernel_rfl
@[go_sem] theorem zr9 : zeroT Try.prog 9 = some [.v (.string ⟨#[]⟩)] := by kernel_rfl
@[go_sem] theorem sz21 : szT Try.prog 21 = some 1 := by kernel_rfl
@[go_sem] theorem ag21 : aggT Try.prog 21 = some false := by kernel_rfl
@[go_sem] theorem by21 : bytesT Try.prog 21 = some 4 := by kernel_rfl
@[go_sem] theorem zr21 : zeroT Try.prog 21 = some [.v (.int .i32 0)] := by kernel_rfl
@[go_sem] theorem sz22 : szT Try.prog 22 = some 1 := by kernel_rfl
@[go_sem] theorem ag22 : aggT Try.prog 22 = some false := by kernel_rfl
@[go_sem] theorem by22 : bytesT Try.prog 22 = some 24 := by kernel_rfl
@[go_sem] theorem zr22 : zeroT Try.prog 22 = some [.nil] := by kernel_rfl
@[go_sem] theorem sz23 : szT Try.prog 23 = some 3 := by kernel_rfl
@[go_sem] theorem ag23 : aggT Try.prog 23 = some true := by kernel_rfl
@[go_sem] theorem by23 : bytesT Try.prog 23 = some 40 := by kernel_rfl
@[go_sem] theorem zr23 : zeroT Try.prog 23 = some [.v (.int .i64 0), .v (.int .i64 0), .nil] := by kernel_rfl
@[go_sem] theorem off23_0 : offT Try.prog 23 0 = some 0 := by kernel_rfl
@[go_sem] theorem fo23_0 : ftoT Try.prog 23 0 = some (3, 0) := by kernel_rfl
@[go_sem] theorem off23_1 : offT Try.prog 23 1 = some 1 := by kernel_rfl
@[go_sem] theorem fo23_1 : ftoT Try.prog 23 1 = some (3, 1) := by kernel_rfl
@[go_sem] theorem off23_2 : offT Try.prog 23 2 = some 2 := by kernel_rfl
@[go_sem] theorem fo23_2 : ftoT Try.prog 23 2 = some (22, 2) := by kernel_rfl
@[go_sem] theorem pl23 : placesT Try.prog 23 = some [(0, 1), (1, 1), (2, 1)] := by kernel_rfl
@[go_sem] theorem sz24 : szT Try.prog 24 = some 3 := by kernel_rfl
@[go_sem] theorem ag24 : aggT Try.prog 24 = some true := by kernel_rfl
@[go_sem] theorem by24 : bytesT Try.prog 24 = some 40 := by kernel_rfl
@[go_sem] theorem zr24 : zeroT Try.prog 24 = some [.v (.int .i64 0), .v (.int .i64 0), .nil] := by kernel_rfl
@[go_sem] theorem off24_0 : offT Try.prog 24 0 = some 0 := by kernel_rfl
@[go_sem] theorem fo24_0 : ftoT Try.prog 24 0 = some (3, 0) := by kernel_rfl
@[go_sem] theorem off24_1 : offT Try.prog 24 1 = some 1 := by kernel_rfl
@[go_sem] theorem fo24_1 : ftoT Try.prog 24 1 = some (3, 1) := by kernel_rfl
@[go_sem] theorem off24_2 : offT Try.prog 24 2 = some 2 := by kernel_rfl
@[go_sem] theorem fo24_2 : ftoT Try.prog 24 2 = some (22, 2) := by kernel_rfl
@[go_sem] theorem pl24 : placesT Try.prog 24 = some [(0, 1), (1, 1), (2, 1)] := by kernel_rfl
@[go_sem] theorem sz25 : szT Try.prog 25 = some 1 := by kernel_rfl
@[go_sem] theorem ag25 : aggT Try.prog 25 = some false := by kernel_rfl
@[go_sem] theorem by25 : bytesT Try.prog 25 = some 24 := by kernel_rfl
@[go_sem] theorem zr25 : zeroT Try.prog 25 = some [.nil] := by kernel_rfl
@[go_sem] theorem sz26 : szT Try.prog 26 = some 1 := by kernel_rfl
@[go_sem] theorem ag26 : aggT Try.prog 26 = some false := by kernel_rfl
@[go_sem] theorem by26 : bytesT Try.prog 26 = some 8 := by kernel_rfl
@[go_sem] theorem sz27 : szT Try.prog 27 = some 1 := by kernel_rfl
@[go_sem] theorem ag27 : aggT Try.prog 27 = some false := by kernel_rfl
@[go_sem] theorem by27 : bytesT Try.prog 27 = some 8 := by kernel_rfl
@[go_sem] theorem sz28 : szT Try.prog 28 = some 1 := by kernel_rfl
@[go_sem] theorem ag28 : aggT Try.prog 28 = some false := by kernel_rfl
@[go_sem] theorem by28 : bytesT Try.prog 28 = some 8 := by kernel_rfl
@[go_sem] theorem sz29 : szT Try.prog 29 = some 1 := by kernel_rfl
@[go_sem] theorem ag29 : aggT Try.prog 29 = some false := by kernel_rfl
@[go_sem] theorem by29 : bytesT Try.prog 29 = some 8 := by kernel_rfl
@[go_sem] theorem zr29 : zeroT Try.prog 29 = some [.v (.pointer none)] := by kernel_rfl
@[go_sem] theorem sz30 : szT Try.prog 30 = some 1 := by kernel_rfl
@[go_sem] theorem ag30 : aggT Try.prog 30 = some false := by kernel_rfl
@[go_sem] theorem by30 : bytesT Try.prog 30 = some 8 := by kernel_rfl
@[go_sem] theorem zr30 : zeroT Try.prog 30 = some [.v (.int .i64 0)] := by kernel_rfl
@[go_sem] theorem sz32 : szT Try.prog 32 = some 1 := by kernel_rfl
@[go_sem] theorem ag32 : aggT Try.prog 32 = some false := by kernel_rfl
@[go_sem] theorem by32 : bytesT Try.prog 32 = some 8 := by kernel_rfl
@[go_sem] theorem sz33 : szT Try.prog 33 = some 1 := by kernel_rfl
@[go_sem] theorem ag33 : aggT Try.prog 33 = some false := by kernel_rfl
@[go_sem] theorem by33 : bytesT Try.prog 33 = some 8 := by kernel_rfl
@[go_sem] theorem zr33 : zeroT Try.prog 33 = some [.v (.pointer none)] := by kernel_rfl
@[go_sem] theorem sz34 : szT Try.prog 34 = some 1 := by kernel_rfl
@[go_sem] theorem ag34 : aggT Try.prog 34 = some false := by kernel_rfl
@[go_sem] theorem by34 : bytesT Try.prog 34 = some 8 := by kernel_rfl
@[go_sem] theorem sz35 : szT Try.prog 35 = some 1 := by kernel_rfl
@[go_sem] theorem ag35 : aggT Try.prog 35 = some false := by kernel_rfl
@[go_sem] theorem by35 : bytesT Try.prog 35 = some 8 := by kernel_rfl
@[go_sem] theorem zr35 : zeroT Try.prog 35 = some [.v (.pointer none)] := by kernel_rfl
@[go_sem] theorem sz36 : szT Try.prog 36 = some 1 := by kernel_rfl
@[go_sem] theorem ag36 : aggT Try.prog 36 = some false := by kernel_rfl
@[go_sem] theorem by36 : bytesT Try.prog 36 = some 24 := by kernel_rfl
@[go_sem] theorem zr36 : zeroT Try.prog 36 = some [.nil] := by kernel_rfl
@[go_sem] theorem sz37 : szT Try.prog 37 = some 3 := by kernel_rfl
@[go_sem] theorem ag37 : aggT Try.prog 37 = some true := by kernel_rfl
@[go_sem] theorem by37 : bytesT Try.prog 37 = some 40 := by kernel_rfl
@[go_sem] theorem zr37 : zeroT Try.prog 37 = some [.v (.pointer none), .nil, .v (.int .i64 0)] := by kernel_rfl
@[go_sem] theorem off37_0 : offT Try.prog 37 0 = some 0 := by kernel_rfl
@[go_sem] theorem fo37_0 : ftoT Try.prog 37 0 = some (33, 0) := by kernel_rfl
@[go_sem] theorem off37_1 : offT Try.prog 37 1 = some 1 := by kernel_rfl
@[go_sem] theorem fo37_1 : ftoT Try.prog 37 1 = some (36, 1) := by kernel_rfl
@[go_sem] theorem off37_2 : offT Try.prog 37 2 = some 2 := by kernel_rfl
@[go_sem] theorem fo37_2 : ftoT Try.prog 37 2 = some (3, 2) := by kernel_rfl
@[go_sem] theorem pl37 : placesT Try.prog 37 = some [(0, 1), (1, 1), (2, 1)] := by kernel_rfl
@[go_sem] theorem sz38 : szT Try.prog 38 = some 3 := by kernel_rfl
@[go_sem] theorem ag38 : aggT Try.prog 38 = some true := by kernel_rfl
@[go_sem] theorem by38 : bytesT Try.prog 38 = some 40 := by kernel_rfl
@[go_sem] theorem zr38 : zeroT Try.prog 38 = some [.v (.pointer none), .nil, .v (.int .i64 0)] := by kernel_rfl
@[go_sem] theorem off38_0 : offT Try.prog 38 0 = some 0 := by kernel_rfl
@[go_sem] theorem fo38_0 : ftoT Try.prog 38 0 = some (33, 0) := by kernel_rfl
@[go_sem] theorem off38_1 : offT Try.prog 38 1 = some 1 := by kernel_rfl
@[go_sem] theorem fo38_1 : ftoT Try.prog 38 1 = some (36, 1) := by kernel_rfl
@[go_sem] theorem off38_2 : offT Try.prog 38 2 = some 2 := by kernel_rfl
@[go_sem] theorem fo38_2 : ftoT Try.prog 38 2 = some (3, 2) := by kernel_rfl
@[go_sem] theorem pl38 : placesT Try.prog 38 = some [(0, 1), (1, 1), (2, 1)] := by kernel_rfl
@[go_sem] theorem sz39 : szT Try.prog 39 = some 4 := by kernel_rfl
@[go_sem] theorem ag39 : aggT Try.prog 39 = some true := by kernel_rfl
@[go_sem] theorem by39 : bytesT Try.prog 39 = some 40 := by kernel_rfl
@[go_sem] theorem zr39 : zeroT Try.prog 39 = some [.v (.int .i64 0), .v (.int .i64 0), .v (.string ⟨#[]⟩), .v (.int .u8 0)] := by kernel_rfl
@[go_sem] theorem off39_0 : offT Try.prog 39 0 = some 0 := by kernel_rfl
@[go_sem] theorem fo39_0 : ftoT Try.prog 39 0 = some (3, 0) := by kernel_rfl
@[go_sem] theorem off39_1 : offT Try.prog 39 1 = some 1 := by kernel_rfl
@[go_sem] theorem fo39_1 : ftoT Try.prog 39 1 = some (3, 1) := by kernel_rfl
@[go_sem] theorem off39_2 : offT Try.prog 39 2 = some 2 := by kernel_rfl
@[go_sem] theorem fo39_2 : ftoT Try.prog 39 2 = some (9, 2) := by kernel_rfl
@[go_sem] theorem off39_3 : offT Try.prog 39 3 = some 3 := by kernel_rfl
@[go_sem] theorem fo39_3 : ftoT Try.prog 39 3 = some (5, 3) := by kernel_rfl
@[go_sem] theorem pl39 : placesT Try.prog 39 = some [(0, 1), (1, 1), (2, 1), (3, 1)] := by kernel_rfl
@[go_sem] theorem eq39 : eqShape Try.prog 39 = some [.int .i64, .int .i64, .string, .int .u8] := by kernel_rfl
@[go_sem] theorem sz40 : szT Try.prog 40 = some 4 := by kernel_rfl
@[go_sem] theorem ag40 : aggT Try.prog 40 = some true := by kernel_rfl
@[go_sem] theorem by40 : bytesT Try.prog 40 = some 40 := by kernel_rfl
@[go_sem] theorem zr40 : zeroT Try.prog 40 = some [.v (.int .i64 0), .v (.int .i64 0), .v (.string ⟨#[]⟩), .v (.int .u8 0)] := by kernel_rfl
@[go_sem] theorem off40_0 : offT Try.prog 40 0 = some 0 := by kernel_rfl
@[go_sem] theorem fo40_0 : ftoT Try.prog 40 0 = some (3, 0) := by kernel_rfl
@[go_sem] theorem off40_1 : offT Try.prog 40 1 = some 1 := by kernel_rfl
@[go_sem] theorem fo40_1 : ftoT Try.prog 40 1 = some (3, 1) := by kernel_rfl
@[go_sem] theorem off40_2 : offT Try.prog 40 2 = some 2 := by kernel_rfl
@[go_sem] theorem fo40_2 : ftoT Try.prog 40 2 = some (9, 2) := by kernel_rfl
@[go_sem] theorem off40_3 : offT Try.prog 40 3 = some 3 := by kernel_rfl
@[go_sem] theorem fo40_3 : ftoT Try.prog 40 3 = some (5, 3) := by kernel_rfl
@[go_sem] theorem pl40 : placesT Try.prog 40 = some [(0, 1), (1, 1), (2, 1), (3, 1)] := by kernel_rfl
@[go_sem] theorem eq40 : eqShape Try.prog 40 = some [.int .i64, .int .i64, .string, .int .u8] := by kernel_rfl
@[go_sem] theorem sz41 : szT Try.prog 41 = some 1 := by kernel_rfl
@[go_sem] theorem ag41 : aggT Try.prog 41 = some false := by kernel_rfl
@[go_sem] theorem by41 : bytesT Try.prog 41 = some 24 := by kernel_rfl
@[go_sem] theorem zr41 : zeroT Try.prog 41 = some [.nil] := by kernel_rfl
@[go_sem] theorem sz42 : szT Try.prog 42 = some 1 := by kernel_rfl
@[go_sem] theorem ag42 : aggT Try.prog 42 = some false := by kernel_rfl
@[go_sem] theorem by42 : bytesT Try.prog 42 = some 8 := by kernel_rfl
@[go_sem] theorem sz43 : szT Try.prog 43 = some 1 := by kernel_rfl
@[go_sem] theorem ag43 : aggT Try.prog 43 = some false := by kernel_rfl
@[go_sem] theorem by43 : bytesT Try.prog 43 = some 8 := by kernel_rfl
@[go_sem] theorem sz44 : szT Try.prog 44 = some 1 := by kernel_rfl
@[go_sem] theorem ag44 : aggT Try.prog 44 = some false := by kernel_rfl
@[go_sem] theorem by44 : bytesT Try.prog 44 = some 1 := by kernel_rfl
@[go_sem] theorem zr44 : zeroT Try.prog 44 = some [.v (.int .u8 0)] := by kernel_rfl
@[go_sem] theorem sz45 : szT Try.prog 45 = some 1 := by kernel_rfl
@[go_sem] theorem ag45 : aggT Try.prog 45 = some false := by kernel_rfl
@[go_sem] theorem by45 : bytesT Try.prog 45 = some 8 := by kernel_rfl
@[go_sem] theorem sz46 : szT Try.prog 46 = some 1 := by kernel_rfl
@[go_sem] theorem ag46 : aggT Try.prog 46 = some false := by kernel_rfl
@[go_sem] theorem by46 : bytesT Try.prog 46 = some 8 := by kernel_rfl
@[go_sem] theorem sz47 : szT Try.prog 47 = some 1 := by kernel_rfl
@[go_sem] theorem ag47 : aggT Try.prog 47 = some false := by kernel_rfl
@[go_sem] theorem by47 : bytesT Try.prog 47 = some 8 := by kernel_rfl
@[go_sem] theorem sz49 : szT Try.prog 49 = some 1 := by kernel_rfl
@[go_sem] theorem ag49 : aggT Try.prog 49 = some false := by kernel_rfl
@[go_sem] theorem by49 : bytesT Try.prog 49 = some 8 := by kernel_rfl
@[go_sem] theorem sz51 : szT Try.prog 51 = some 1 := by kernel_rfl
@[go_sem] theorem ag51 : aggT Try.prog 51 = some false := by kernel_rfl
@[go_sem] theorem by51 : bytesT Try.prog 51 = some 8 := by kernel_rfl
@[go_sem] theorem sz52 : szT Try.prog 52 = some 1 := by kernel_rfl
@[go_sem] theorem ag52 : aggT Try.prog 52 = some false := by kernel_rfl
@[go_sem] theorem by52 : bytesT Try.prog 52 = some 8 := by kernel_rfl
@[go_sem] theorem sz53 : szT Try.prog 53 = some 1 := by kernel_rfl
@[go_sem] theorem ag53 : aggT Try.prog 53 = some false := by kernel_rfl
@[go_sem] theorem by53 : bytesT Try.prog 53 = some 8 := by kernel_rfl
@[go_sem] theorem sz54 : szT Try.prog 54 = some 1 := by kernel_rfl
@[go_sem] theorem ag54 : aggT Try.prog 54 = some false := by kernel_rfl
@[go_sem] theorem by54 : bytesT Try.prog 54 = some 8 := by kernel_rfl
@[go_sem] theorem sz55 : szT Try.prog 55 = some 1 := by kernel_rfl
@[go_sem] theorem ag55 : aggT Try.prog 55 = some false := by kernel_rfl
@[go_sem] theorem by55 : bytesT Try.prog 55 = some 8 := by kernel_rfl
@[go_sem] theorem zr55 : zeroT Try.prog 55 = some [.v (.pointer none)] := by kernel_rfl
@[go_sem] theorem sz56 : szT Try.prog 56 = some 1 := by kernel_rfl
@[go_sem] theorem ag56 : aggT Try.prog 56 = some false := by kernel_rfl
@[go_sem] theorem by56 : bytesT Try.prog 56 = some 8 := by kernel_rfl
@[go_sem] theorem sz57 : szT Try.prog 57 = some 5 := by kernel_rfl
@[go_sem] theorem ag57 : aggT Try.prog 57 = some true := by kernel_rfl
@[go_sem] theorem by57 : bytesT Try.prog 57 = some 96 := by kernel_rfl
@[go_sem] theorem zr57 : zeroT Try.prog 57 = some [.v (.string ⟨#[]⟩), .v (.int .i64 0), .nil, .nil, .nil] := by kernel_rfl
@[go_sem] theorem off57_0 : offT Try.prog 57 0 = some 0 := by kernel_rfl
@[go_sem] theorem fo57_0 : ftoT Try.prog 57 0 = some (9, 0) := by kernel_rfl
@[go_sem] theorem off57_1 : offT Try.prog 57 1 = some 1 := by kernel_rfl
@[go_sem] theorem fo57_1 : ftoT Try.prog 57 1 = some (3, 1) := by kernel_rfl
@[go_sem] theorem off57_2 : offT Try.prog 57 2 = some 2 := by kernel_rfl
@[go_sem] theorem fo57_2 : ftoT Try.prog 57 2 = some (41, 2) := by kernel_rfl
@[go_sem] theorem off57_3 : offT Try.prog 57 3 = some 3 := by kernel_rfl
@[go_sem] theorem fo57_3 : ftoT Try.prog 57 3 = some (41, 3) := by kernel_rfl
@[go_sem] theorem off57_4 : offT Try.prog 57 4 = some 4 := by kernel_rfl
@[go_sem] theorem fo57_4 : ftoT Try.prog 57 4 = some (41, 4) := by kernel_rfl
@[go_sem] theorem pl57 : placesT Try.prog 57 = some [(0, 1), (1, 1), (2, 1), (3, 1), (4, 1)] := by kernel_rfl
@[go_sem] theorem sz58 : szT Try.prog 58 = some 5 := by kernel_rfl
@[go_sem] theorem ag58 : aggT Try.prog 58 = some true := by kernel_rfl
@[go_sem] theorem by58 : bytesT Try.prog 58 = some 96 := by kernel_rfl
@[go_sem] theorem zr58 : zeroT Try.prog 58 = some [.v (.string ⟨#[]⟩), .v (.int .i64 0), .nil, .nil, .nil] := by kernel_rfl
@[go_sem] theorem off58_0 : offT Try.prog 58 0 = some 0 := by kernel_rfl
@[go_sem] theorem fo58_0 : ftoT Try.prog 58 0 = some (9, 0) := by kernel_rfl
@[go_sem] theorem off58_1 : offT Try.prog 58 1 = some 1 := by kernel_rfl
@[go_sem] theorem fo58_1 : ftoT Try.prog 58 1 = some (3, 1) := by kernel_rfl
@[go_sem] theorem off58_2 : offT Try.prog 58 2 = some 2 := by kernel_rfl
@[go_sem] theorem fo58_2 : ftoT Try.prog 58 2 = some (41, 2) := by kernel_rfl
@[go_sem] theorem off58_3 : offT Try.prog 58 3 = some 3 := by kernel_rfl
@[go_sem] theorem fo58_3 : ftoT Try.prog 58 3 = some (41, 3) := by kernel_rfl
@[go_sem] theorem off58_4 : offT Try.prog 58 4 = some 4 := by kernel_rfl
@[go_sem] theorem fo58_4 : ftoT Try.prog 58 4 = some (41, 4) := by kernel_rfl
@[go_sem] theorem pl58 : placesT Try.prog 58 = some [(0, 1), (1, 1), (2, 1), (3, 1), (4, 1)] := by kernel_rfl
@[go_sem] theorem sz59 : szT Try.prog 59 = some 1 := by kernel_rfl
@[go_sem] theorem ag59 : aggT Try.prog 59 = some false := by kernel_rfl
@[go_sem] theorem by59 : bytesT Try.prog 59 = some 8 := by kernel_rfl
@[go_sem] theorem zr59 : zeroT Try.prog 59 = some [.v (.pointer none)] := by kernel_rfl
@[go_sem] theorem sz60 : szT Try.prog 60 = some 1 := by kernel_rfl
@[go_sem] theorem ag60 : aggT Try.prog 60 = some false := by kernel_rfl
@[go_sem] theorem by60 : bytesT Try.prog 60 = some 24 := by kernel_rfl
@[go_sem] theorem zr60 : zeroT Try.prog 60 = some [.nil] := by kernel_rfl
@[go_sem] theorem sz62 : szT Try.prog 62 = some 1 := by kernel_rfl
@[go_sem] theorem ag62 : aggT Try.prog 62 = some false := by kernel_rfl
@[go_sem] theorem by62 : bytesT Try.prog 62 = some 8 := by kernel_rfl
@[go_sem] theorem sz64 : szT Try.prog 64 = some 1 := by kernel_rfl
@[go_sem] theorem ag64 : aggT Try.prog 64 = some false := by kernel_rfl
@[go_sem] theorem by64 : bytesT Try.prog 64 = some 8 := by kernel_rfl
@[go_sem] theorem sz65 : szT Try.prog 65 = some 1 := by kernel_rfl
@[go_sem] theorem ag65 : aggT Try.prog 65 = some false := by kernel_rfl
@[go_sem] theorem by65 : bytesT Try.prog 65 = some 8 := by kernel_rfl
@[go_sem] theorem sz66 : szT Try.prog 66 = some 1 := by kernel_rfl
@[go_sem] theorem ag66 : aggT Try.prog 66 = some false := by kernel_rfl
@[go_sem] theorem by66 : bytesT Try.prog 66 = some 8 := by kernel_rfl
@[go_sem] theorem sz67 : szT Try.prog 67 = some 1 := by kernel_rfl
@[go_sem] theorem ag67 : aggT Try.prog 67 = some false := by kernel_rfl
@[go_sem] theorem by67 : bytesT Try.prog 67 = some 8 := by kernel_rfl
@[go_sem] theorem sz68 : szT Try.prog 68 = some 1 := by kernel_rfl
@[go_sem] theorem ag68 : aggT Try.prog 68 = some false := by kernel_rfl
@[go_sem] theorem by68 : bytesT Try.prog 68 = some 8 := by kernel_rfl
@[go_sem] theorem sz69 : szT Try.prog 69 = some 1 := by kernel_rfl
@[go_sem] theorem ag69 : aggT Try.prog 69 = some false := by kernel_rfl
@[go_sem] theorem by69 : bytesT Try.prog 69 = some 8 := by kernel_rfl
@[go_sem] theorem sz70 : szT Try.prog 70 = some 1 := by kernel_rfl
@[go_sem] theorem ag70 : aggT Try.prog 70 = some false := by kernel_rfl
@[go_sem] theorem by70 : bytesT Try.prog 70 = some 8 := by kernel_rfl
@[go_sem] theorem zr70 : zeroT Try.prog 70 = some [.v (.map none)] := by kernel_rfl
@[go_sem] theorem sz71 : szT Try.prog 71 = some 1 := by kernel_rfl
@[go_sem] theorem ag71 : aggT Try.prog 71 = some false := by kernel_rfl
@[go_sem] theorem by71 : bytesT Try.prog 71 = some 8 := by kernel_rfl
@[go_sem] theorem zr71 : zeroT Try.prog 71 = some [.v (.map none)] := by kernel_rfl
@[go_sem] theorem sz72 : szT Try.prog 72 = some 2 := by kernel_rfl
@[go_sem] theorem ag72 : aggT Try.prog 72 = some true := by kernel_rfl
@[go_sem] theorem by72 : bytesT Try.prog 72 = some 24 := by kernel_rfl
@[go_sem] theorem zr72 : zeroT Try.prog 72 = some [.v (.string ⟨#[]⟩), .v (.int .i64 0)] := by kernel_rfl
@[go_sem] theorem off72_0 : offT Try.prog 72 0 = some 0 := by kernel_rfl
@[go_sem] theorem fo72_0 : ftoT Try.prog 72 0 = some (9, 0) := by kernel_rfl
@[go_sem] theorem off72_1 : offT Try.prog 72 1 = some 1 := by kernel_rfl
@[go_sem] theorem fo72_1 : ftoT Try.prog 72 1 = some (3, 1) := by kernel_rfl
@[go_sem] theorem pl72 : placesT Try.prog 72 = some [(0, 1), (1, 1)] := by kernel_rfl
@[go_sem] theorem eq72 : eqShape Try.prog 72 = some [.string, .int .i64] := by kernel_rfl
@[go_sem] theorem sz73 : szT Try.prog 73 = some 2 := by kernel_rfl
@[go_sem] theorem ag73 : aggT Try.prog 73 = some true := by kernel_rfl
@[go_sem] theorem by73 : bytesT Try.prog 73 = some 24 := by kernel_rfl
@[go_sem] theorem zr73 : zeroT Try.prog 73 = some [.v (.string ⟨#[]⟩), .v (.int .i64 0)] := by kernel_rfl
@[go_sem] theorem off73_0 : offT Try.prog 73 0 = some 0 := by kernel_rfl
@[go_sem] theorem fo73_0 : ftoT Try.prog 73 0 = some (9, 0) := by kernel_rfl
@[go_sem] theorem off73_1 : offT Try.prog 73 1 = some 1 := by kernel_rfl
@[go_sem] theorem fo73_1 : ftoT Try.prog 73 1 = some (3, 1) := by kernel_rfl
@[go_sem] theorem pl73 : placesT Try.prog 73 = some [(0, 1), (1, 1)] := by kernel_rfl
@[go_sem] theorem eq73 : eqShape Try.prog 73 = some [.string, .int .i64] := by kernel_rfl
@[go_sem] theorem sz74 : szT Try.prog 74 = some 1 := by kernel_rfl
@[go_sem] theorem ag74 : aggT Try.prog 74 = some false := by kernel_rfl
@[go_sem] theorem by74 : bytesT Try.prog 74 = some 8 := by kernel_rfl
@[go_sem] theorem sz75 : szT Try.prog 75 = some 1 := by kernel_rfl
@[go_sem] theorem ag75 : aggT Try.prog 75 = some false := by kernel_rfl
@[go_sem] theorem by75 : bytesT Try.prog 75 = some 8 := by kernel_rfl
@[go_sem] theorem sz76 : szT Try.prog 76 = some 1 := by kernel_rfl
@[go_sem] theorem ag76 : aggT Try.prog 76 = some false := by kernel_rfl
@[go_sem] theorem by76 : bytesT Try.prog 76 = some 24 := by kernel_rfl
@[go_sem] theorem zr76 : zeroT Try.prog 76 = some [.nil] := by kernel_rfl
@[go_sem] theorem sz77 : szT Try.prog 77 = some 4 := by kernel_rfl
@[go_sem] theorem ag77 : aggT Try.prog 77 = some true := by kernel_rfl
@[go_sem] theorem by77 : bytesT Try.prog 77 = some 32 := by kernel_rfl
@[go_sem] theorem zr77 : zeroT Try.prog 77 = some [.v (.int .i64 0), .v (.int .i64 0), .v (.int .i64 0), .v (.int .i64 0)] := by kernel_rfl
@[go_sem] theorem off77_0 : offT Try.prog 77 0 = some 0 := by kernel_rfl
@[go_sem] theorem fo77_0 : ftoT Try.prog 77 0 = some (3, 0) := by kernel_rfl
@[go_sem] theorem off77_1 : offT Try.prog 77 1 = some 1 := by kernel_rfl
@[go_sem] theorem fo77_1 : ftoT Try.prog 77 1 = some (3, 1) := by kernel_rfl
@[go_sem] theorem off77_2 : offT Try.prog 77 2 = some 2 := by kernel_rfl
@[go_sem] theorem fo77_2 : ftoT Try.prog 77 2 = some (3, 2) := by kernel_rfl
@[go_sem] theorem off77_3 : offT Try.prog 77 3 = some 3 := by kernel_rfl
@[go_sem] theorem fo77_3 : ftoT Try.prog 77 3 = some (2, 3) := by kernel_rfl
@[go_sem] theorem pl77 : placesT Try.prog 77 = some [(0, 1), (1, 1), (2, 1), (3, 1)] := by kernel_rfl
@[go_sem] theorem eq77 : eqShape Try.prog 77 = some [.int .i64, .int .i64, .int .i64, .int .i64] := by kernel_rfl
@[go_sem] theorem sz78 : szT Try.prog 78 = some 4 := by kernel_rfl
@[go_sem] theorem ag78 : aggT Try.prog 78 = some true := by kernel_rfl
@[go_sem] theorem by78 : bytesT Try.prog 78 = some 32 := by kernel_rfl
@[go_sem] theorem zr78 : zeroT Try.prog 78 = some [.v (.int .i64 0), .v (.int .i64 0), .v (.int .i64 0), .v (.int .i64 0)] := by kernel_rfl
@[go_sem] theorem off78_0 : offT Try.prog 78 0 = some 0 := by kernel_rfl
@[go_sem] theorem fo78_0 : ftoT Try.prog 78 0 = some (3, 0) := by kernel_rfl
@[go_sem] theorem off78_1 : offT Try.prog 78 1 = some 1 := by kernel_rfl
@[go_sem] theorem fo78_1 : ftoT Try.prog 78 1 = some (3, 1) := by kernel_rfl
@[go_sem] theorem off78_2 : offT Try.prog 78 2 = some 2 := by kernel_rfl
@[go_sem] theorem fo78_2 : ftoT Try.prog 78 2 = some (3, 2) := by kernel_rfl
@[go_sem] theorem off78_3 : offT Try.prog 78 3 = some 3 := by kernel_rfl
@[go_sem] theorem fo78_3 : ftoT Try.prog 78 3 = some (2, 3) := by kernel_rfl
@[go_sem] theorem pl78 : placesT Try.prog 78 = some [(0, 1), (1, 1), (2, 1), (3, 1)] := by kernel_rfl
@[go_sem] theorem eq78 : eqShape Try.prog 78 = some [.int .i64, .int .i64, .int .i64, .int .i64] := by kernel_rfl
@[go_sem] theorem sz79 : szT Try.prog 79 = some 1 := by kernel_rfl
@[go_sem] theorem ag79 : aggT Try.prog 79 = some false := by kernel_rfl
@[go_sem] theorem by79 : bytesT Try.prog 79 = some 24 := by kernel_rfl
@[go_sem] theorem zr79 : zeroT Try.prog 79 = some [.nil] := by kernel_rfl
@[go_sem] theorem sz80 : szT Try.prog 80 = some 1 := by kernel_rfl
@[go_sem] theorem ag80 : aggT Try.prog 80 = some false := by kernel_rfl
@[go_sem] theorem by80 : bytesT Try.prog 80 = some 8 := by kernel_rfl
@[go_sem] theorem sz82 : szT Try.prog 82 = some 1 := by kernel_rfl
@[go_sem] theorem ag82 : aggT Try.prog 82 = some false := by kernel_rfl
@[go_sem] theorem by82 : bytesT Try.prog 82 = some 8 := by kernel_rfl
@[go_sem] theorem sz83 : szT Try.prog 83 = some 1 := by kernel_rfl
@[go_sem] theorem ag83 : aggT Try.prog 83 = some false := by kernel_rfl
@[go_sem] theorem by83 : bytesT Try.prog 83 = some 8 := by kernel_rfl
@[go_sem] theorem sz84 : szT Try.prog 84 = some 1 := by kernel_rfl
@[go_sem] theorem ag84 : aggT Try.prog 84 = some false := by kernel_rfl
@[go_sem] theorem by84 : bytesT Try.prog 84 = some 8 := by kernel_rfl
@[go_sem] theorem zr84 : zeroT Try.prog 84 = some [.v (.map none)] := by kernel_rfl
@[go_sem] theorem sz85 : szT Try.prog 85 = some 6 := by kernel_rfl
@[go_sem] theorem ag85 : aggT Try.prog 85 = some true := by kernel_rfl
@[go_sem] theorem by85 : bytesT Try.prog 85 = some 64 := by kernel_rfl
@[go_sem] theorem zr85 : zeroT Try.prog 85 = some [.v (.int .i64 0), .v (.int .i64 0), .nil, .v (.int .i64 0), .v (.map none), .v (.int .i64 0)] := by kernel_rfl
@[go_sem] theorem off85_0 : offT Try.prog 85 0 = some 0 := by kernel_rfl
@[go_sem] theorem fo85_0 : ftoT Try.prog 85 0 = some (24, 0) := by kernel_rfl
@[go_sem] theorem off85_1 : offT Try.prog 85 1 = some 3 := by kernel_rfl
@[go_sem] theorem fo85_1 : ftoT Try.prog 85 1 = some (3, 3) := by kernel_rfl
@[go_sem] theorem off85_2 : offT Try.prog 85 2 = some 4 := by kernel_rfl
@[go_sem] theorem fo85_2 : ftoT Try.prog 85 2 = some (84, 4) := by kernel_rfl
@[go_sem] theorem off85_3 : offT Try.prog 85 3 = some 5 := by kernel_rfl
@[go_sem] theorem fo85_3 : ftoT Try.prog 85 3 = some (3, 5) := by kernel_rfl
@[go_sem] theorem pl85 : placesT Try.prog 85 = some [(0, 3), (3, 1), (4, 1), (5, 1)] := by kernel_rfl
@[go_sem] theorem sz86 : szT Try.prog 86 = some 6 := by kernel_rfl
@[go_sem] theorem ag86 : aggT Try.prog 86 = some true := by kernel_rfl
@[go_sem] theorem by86 : bytesT Try.prog 86 = some 64 := by kernel_rfl
@[go_sem] theorem zr86 : zeroT Try.prog 86 = some [.v (.int .i64 0), .v (.int .i64 0), .nil, .v (.int .i64 0), .v (.map none), .v (.int .i64 0)] := by kernel_rfl
@[go_sem] theorem off86_0 : offT Try.prog 86 0 = some 0 := by kernel_rfl
@[go_sem] theorem fo86_0 : ftoT Try.prog 86 0 = some (24, 0) := by kernel_rfl
@[go_sem] theorem off86_1 : offT Try.prog 86 1 = some 3 := by kernel_rfl
@[go_sem] theorem fo86_1 : ftoT Try.prog 86 1 = some (3, 3) := by kernel_rfl
@[go_sem] theorem off86_2 : offT Try.prog 86 2 = some 4 := by kernel_rfl
@[go_sem] theorem fo86_2 : ftoT Try.prog 86 2 = some (84, 4) := by kernel_rfl
@[go_sem] theorem off86_3 : offT Try.prog 86 3 = some 5 := by kernel_rfl
@[go_sem] theorem fo86_3 : ftoT Try.prog 86 3 = some (3, 5) := by kernel_rfl
@[go_sem] theorem pl86 : placesT Try.prog 86 = some [(0, 3), (3, 1), (4, 1), (5, 1)] := by kernel_rfl
@[go_sem] theorem sz87 : szT Try.prog 87 = some 2 := by kernel_rfl
@[go_sem] theorem ag87 : aggT Try.prog 87 = some true := by kernel_rfl
@[go_sem] theorem by87 : bytesT Try.prog 87 = some 16 := by kernel_rfl
@[go_sem] theorem zr87 : zeroT Try.prog 87 = some [.v (.int .i64 0), .v (.int .i64 0)] := by kernel_rfl
@[go_sem] theorem pl87 : placesT Try.prog 87 = some [(0, 1), (1, 1)] := by kernel_rfl
@[go_sem] theorem eq87 : eqShape Try.prog 87 = some [.int .i64, .int .i64] := by kernel_rfl
@[go_sem] theorem sz88 : szT Try.prog 88 = some 1 := by kernel_rfl
@[go_sem] theorem ag88 : aggT Try.prog 88 = some false := by kernel_rfl
@[go_sem] theorem by88 : bytesT Try.prog 88 = some 24 := by kernel_rfl
@[go_sem] theorem zr88 : zeroT Try.prog 88 = some [.nil] := by kernel_rfl
@[go_sem] theorem sz89 : szT Try.prog 89 = some 4 := by kernel_rfl
@[go_sem] theorem ag89 : aggT Try.prog 89 = some true := by kernel_rfl
@[go_sem] theorem by89 : bytesT Try.prog 89 = some 32 := by kernel_rfl
@[go_sem] theorem zr89 : zeroT Try.prog 89 = some [.v (.int .i64 0), .v (.int .i64 0), .v (.int .i64 0), .v (.int .i64 0)] := by kernel_rfl
@[go_sem] theorem pl89 : placesT Try.prog 89 = some [(0, 1), (1, 1), (2, 1), (3, 1)] := by kernel_rfl
@[go_sem] theorem eq89 : eqShape Try.prog 89 = some [.int .i64, .int .i64, .int .i64, .int .i64] := by kernel_rfl
@[go_sem] theorem sz90 : szT Try.prog 90 = some 10 := by kernel_rfl
@[go_sem] theorem ag90 : aggT Try.prog 90 = some true := by kernel_rfl
@[go_sem] theorem by90 : bytesT Try.prog 90 = some 112 := by kernel_rfl
@[go_sem] theorem zr90 : zeroT Try.prog 90 = some [.v (.int .i64 0), .v (.int .i64 0), .nil, .nil, .v (.int .i64 0), .v (.int .i64 0), .v (.int .i64 0), .v (.int .i64 0), .v (.int .i64 0), .v (.int .i64 0)] := by kernel_rfl
@[go_sem] theorem off90_0 : offT Try.prog 90 0 = some 0 := by kernel_rfl
@[go_sem] theorem fo90_0 : ftoT Try.prog 90 0 = some (24, 0) := by kernel_rfl
@[go_sem] theorem off90_1 : offT Try.prog 90 1 = some 3 := by kernel_rfl
@[go_sem] theorem fo90_1 : ftoT Try.prog 90 1 = some (88, 3) := by kernel_rfl
@[go_sem] theorem off90_2 : offT Try.prog 90 2 = some 4 := by kernel_rfl
@[go_sem] theorem fo90_2 : ftoT Try.prog 90 2 = some (89, 4) := by kernel_rfl
@[go_sem] theorem off90_3 : offT Try.prog 90 3 = some 8 := by kernel_rfl
@[go_sem] theorem fo90_3 : ftoT Try.prog 90 3 = some (87, 8) := by kernel_rfl
@[go_sem] theorem pl90 : placesT Try.prog 90 = some [(0, 3), (3, 1), (4, 4), (8, 2)] := by kernel_rfl
@[go_sem] theorem sz91 : szT Try.prog 91 = some 10 := by kernel_rfl
@[go_sem] theorem ag91 : aggT Try.prog 91 = some true := by kernel_rfl
@[go_sem] theorem by91 : bytesT Try.prog 91 = some 112 := by kernel_rfl
@[go_sem] theorem zr91 : zeroT Try.prog 91 = some [.v (.int .i64 0), .v (.int .i64 0), .nil, .nil, .v (.int .i64 0), .v (.int .i64 0), .v (.int .i64 0), .v (.int .i64 0), .v (.int .i64 0), .v (.int .i64 0)] := by kernel_rfl
@[go_sem] theorem off91_0 : offT Try.prog 91 0 = some 0 := by kernel_rfl
@[go_sem] theorem fo91_0 : ftoT Try.prog 91 0 = some (24, 0) := by kernel_rfl
@[go_sem] theorem off91_1 : offT Try.prog 91 1 = some 3 := by kernel_rfl
@[go_sem] theorem fo91_1 : ftoT Try.prog 91 1 = some (88, 3) := by kernel_rfl
@[go_sem] theorem off91_2 : offT Try.prog 91 2 = some 4 := by kernel_rfl
@[go_sem] theorem fo91_2 : ftoT Try.prog 91 2 = some (89, 4) := by kernel_rfl
@[go_sem] theorem off91_3 : offT Try.prog 91 3 = some 8 := by kernel_rfl
@[go_sem] theorem fo91_3 : ftoT Try.prog 91 3 = some (87, 8) := by kernel_rfl
@[go_sem] theorem pl91 : placesT Try.prog 91 = some [(0, 3), (3, 1), (4, 4), (8, 2)] := by kernel_rfl
@[go_sem] theorem sz92 : szT Try.prog 92 = some 2 := by kernel_rfl
@[go_sem] theorem ag92 : aggT Try.prog 92 = some true := by kernel_rfl
@[go_sem] theorem by92 : bytesT Try.prog 92 = some 16 := by kernel_rfl
@[go_sem] theorem zr92 : zeroT Try.prog 92 = some [.v (.int .i64 0), .v (.int .i64 0)] := by kernel_rfl
@[go_sem] theorem pl92 : placesT Try.prog 92 = some [(0, 1), (1, 1)] := by kernel_rfl
@[go_sem] theorem eq92 : eqShape Try.prog 92 = some [.int .i64, .int .i64] := by kernel_rfl
@[go_sem] theorem sz93 : szT Try.prog 93 = some 4 := by kernel_rfl
@[go_sem] theorem ag93 : aggT Try.prog 93 = some true := by kernel_rfl
@[go_sem] theorem by93 : bytesT Try.prog 93 = some 32 := by kernel_rfl
@[go_sem] theorem zr93 : zeroT Try.prog 93 = some [.v (.int .i64 0), .v (.int .i64 0), .v (.int .i64 0), .v (.int .i64 0)] := by kernel_rfl
@[go_sem] theorem off93_0 : offT Try.prog 93 0 = some 0 := by kernel_rfl
@[go_sem] theorem fo93_0 : ftoT Try.prog 93 0 = some (3, 0) := by kernel_rfl
@[go_sem] theorem off93_1 : offT Try.prog 93 1 = some 1 := by kernel_rfl
@[go_sem] theorem fo93_1 : ftoT Try.prog 93 1 = some (3, 1) := by kernel_rfl
@[go_sem] theorem off93_2 : offT Try.prog 93 2 = some 2 := by kernel_rfl
@[go_sem] theorem fo93_2 : ftoT Try.prog 93 2 = some (92, 2) := by kernel_rfl
@[go_sem] theorem pl93 : placesT Try.prog 93 = some [(0, 1), (1, 1), (2, 2)] := by kernel_rfl
@[go_sem] theorem sz94 : szT Try.prog 94 = some 4 := by kernel_rfl
@[go_sem] theorem ag94 : aggT Try.prog 94 = some true := by kernel_rfl
@[go_sem] theorem by94 : bytesT Try.prog 94 = some 32 := by kernel_rfl
@[go_sem] theorem zr94 : zeroT Try.prog 94 = some [.v (.int .i64 0), .v (.int .i64 0), .v (.int .i64 0), .v (.int .i64 0)] := by kernel_rfl
@[go_sem] theorem off94_0 : offT Try.prog 94 0 = some 0 := by kernel_rfl
@[go_sem] theorem fo94_0 : ftoT Try.prog 94 0 = some (3, 0) := by kernel_rfl
@[go_sem] theorem off94_1 : offT Try.prog 94 1 = some 1 := by kernel_rfl
@[go_sem] theorem fo94_1 : ftoT Try.prog 94 1 = some (3, 1) := by kernel_rfl
@[go_sem] theorem off94_2 : offT Try.prog 94 2 = some 2 := by kernel_rfl
@[go_sem] theorem fo94_2 : ftoT Try.prog 94 2 = some (92, 2) := by kernel_rfl
@[go_sem] theorem pl94 : placesT Try.prog 94 = some [(0, 1), (1, 1), (2, 2)] := by kernel_rfl
@[go_sem] theorem sz95 : szT Try.prog 95 = some 1 := by kernel_rfl
@[go_sem] theorem ag95 : aggT Try.prog 95 = some false := by kernel_rfl
@[go_sem] theorem by95 : bytesT Try.prog 95 = some 8 := by kernel_rfl
@[go_sem] theorem zr95 : zeroT Try.prog 95 = some [.v (.pointer none)] := by kernel_rfl
@[go_sem] theorem sz96 : szT Try.prog 96 = some 1 := by kernel_rfl
@[go_sem] theorem ag96 : aggT Try.prog 96 = some false := by kernel_rfl
@[go_sem] theorem by96 : bytesT Try.prog 96 = some 8 := by kernel_rfl
@[go_sem] theorem sz97 : szT Try.prog 97 = some 4 := by kernel_rfl
@[go_sem] theorem ag97 : aggT Try.prog 97 = some true := by kernel_rfl
@[go_sem] theorem by97 : bytesT Try.prog 97 = some 16 := by kernel_rfl
@[go_sem] theorem zr97 : zeroT Try.prog 97 = some [.v (.int .i64 0), .v (.int .u8 0), .v (.int .u8 0), .v (.int .u8 0)] := by kernel_rfl
@[go_sem] theorem off97_0 : offT Try.prog 97 0 = some 0 := by kernel_rfl
@[go_sem] theorem fo97_0 : ftoT Try.prog 97 0 = some (3, 0) := by kernel_rfl
@[go_sem] theorem off97_1 : offT Try.prog 97 1 = some 1 := by kernel_rfl
@[go_sem] theorem fo97_1 : ftoT Try.prog 97 1 = some (44, 1) := by kernel_rfl
@[go_sem] theorem off97_2 : offT Try.prog 97 2 = some 2 := by kernel_rfl
@[go_sem] theorem fo97_2 : ftoT Try.prog 97 2 = some (44, 2) := by kernel_rfl
@[go_sem] theorem off97_3 : offT Try.prog 97 3 = some 3 := by kernel_rfl
@[go_sem] theorem fo97_3 : ftoT Try.prog 97 3 = some (44, 3) := by kernel_rfl
@[go_sem] theorem pl97 : placesT Try.prog 97 = some [(0, 1), (1, 1), (2, 1), (3, 1)] := by kernel_rfl
@[go_sem] theorem eq97 : eqShape Try.prog 97 = some [.int .i64, .int .u8, .int .u8, .int .u8] := by kernel_rfl
@[go_sem] theorem sz98 : szT Try.prog 98 = some 4 := by kernel_rfl
@[go_sem] theorem ag98 : aggT Try.prog 98 = some true := by kernel_rfl
@[go_sem] theorem by98 : bytesT Try.prog 98 = some 16 := by kernel_rfl
@[go_sem] theorem zr98 : zeroT Try.prog 98 = some [.v (.int .i64 0), .v (.int .u8 0), .v (.int .u8 0), .v (.int .u8 0)] := by kernel_rfl
@[go_sem] theorem off98_0 : offT Try.prog 98 0 = some 0 := by kernel_rfl
@[go_sem] theorem fo98_0 : ftoT Try.prog 98 0 = some (3, 0) := by kernel_rfl
@[go_sem] theorem off98_1 : offT Try.prog 98 1 = some 1 := by kernel_rfl
@[go_sem] theorem fo98_1 : ftoT Try.prog 98 1 = some (44, 1) := by kernel_rfl
@[go_sem] theorem off98_2 : offT Try.prog 98 2 = some 2 := by kernel_rfl
@[go_sem] theorem fo98_2 : ftoT Try.prog 98 2 = some (44, 2) := by kernel_rfl
@[go_sem] theorem off98_3 : offT Try.prog 98 3 = some 3 := by kernel_rfl
@[go_sem] theorem fo98_3 : ftoT Try.prog 98 3 = some (44, 3) := by kernel_rfl
@[go_sem] theorem pl98 : placesT Try.prog 98 = some [(0, 1), (1, 1), (2, 1), (3, 1)] := by kernel_rfl
@[go_sem] theorem eq98 : eqShape Try.prog 98 = some [.int .i64, .int .u8, .int .u8, .int .u8] := by kernel_rfl
@[go_sem] theorem sz99 : szT Try.prog 99 = some 1 := by kernel_rfl
@[go_sem] theorem ag99 : aggT Try.prog 99 = some false := by kernel_rfl
@[go_sem] theorem by99 : bytesT Try.prog 99 = some 8 := by kernel_rfl
@[go_sem] theorem sz100 : szT Try.prog 100 = some 1 := by kernel_rfl
@[go_sem] theorem ag100 : aggT Try.prog 100 = some false := by kernel_rfl
@[go_sem] theorem by100 : bytesT Try.prog 100 = some 8 := by kernel_rfl
@[go_sem] theorem sz101 : szT Try.prog 101 = some 1 := by kernel_rfl
@[go_sem] theorem ag101 : aggT Try.prog 101 = some false := by kernel_rfl
@[go_sem] theorem by101 : bytesT Try.prog 101 = some 8 := by kernel_rfl
@[go_sem] theorem sz102 : szT Try.prog 102 = some 1 := by kernel_rfl
@[go_sem] theorem ag102 : aggT Try.prog 102 = some false := by kernel_rfl
@[go_sem] theorem by102 : bytesT Try.prog 102 = some 8 := by kernel_rfl
@[go_sem] theorem zr102 : zeroT Try.prog 102 = some [.v (.int .u64 0)] := by kernel_rfl
@[go_sem] theorem sz103 : szT Try.prog 103 = some 1 := by kernel_rfl
@[go_sem] theorem ag103 : aggT Try.prog 103 = some false := by kernel_rfl
@[go_sem] theorem by103 : bytesT Try.prog 103 = some 8 := by kernel_rfl
@[go_sem] theorem sz104 : szT Try.prog 104 = some 1 := by kernel_rfl
@[go_sem] theorem ag104 : aggT Try.prog 104 = some false := by kernel_rfl
@[go_sem] theorem by104 : bytesT Try.prog 104 = some 8 := by kernel_rfl
@[go_sem] theorem sz105 : szT Try.prog 105 = some 1 := by kernel_rfl
@[go_sem] theorem ag105 : aggT Try.prog 105 = some false := by kernel_rfl
@[go_sem] theorem by105 : bytesT Try.prog 105 = some 8 := by kernel_rfl
@[go_sem] theorem sz106 : szT Try.prog 106 = some 1 := by kernel_rfl
@[go_sem] theorem ag106 : aggT Try.prog 106 = some false := by kernel_rfl
@[go_sem] theorem by106 : bytesT Try.prog 106 = some 24 := by kernel_rfl
@[go_sem] theorem zr106 : zeroT Try.prog 106 = some [.nil] := by kernel_rfl
@[go_sem] theorem sz107 : szT Try.prog 107 = some 1 := by kernel_rfl
@[go_sem] theorem ag107 : aggT Try.prog 107 = some false := by kernel_rfl
@[go_sem] theorem by107 : bytesT Try.prog 107 = some 8 := by kernel_rfl
@[go_sem] theorem sz108 : szT Try.prog 108 = some 1 := by kernel_rfl
@[go_sem] theorem ag108 : aggT Try.prog 108 = some false := by kernel_rfl
@[go_sem] theorem by108 : bytesT Try.prog 108 = some 8 := by kernel_rfl
@[go_sem] theorem sz109 : szT Try.prog 109 = some 4 := by kernel_rfl
@[go_sem] theorem ag109 : aggT Try.prog 109 = some true := by kernel_rfl
@[go_sem] theorem by109 : bytesT Try.prog 109 = some 32 := by kernel_rfl
@[go_sem] theorem zr109 : zeroT Try.prog 109 = some [.v (.int .i64 0), .v (.int .i64 0), .v (.int .i64 0), .v (.bool false)] := by kernel_rfl
@[go_sem] theorem off109_0 : offT Try.prog 109 0 = some 0 := by kernel_rfl
@[go_sem] theorem fo109_0 : ftoT Try.prog 109 0 = some (3, 0) := by kernel_rfl
@[go_sem] theorem off109_1 : offT Try.prog 109 1 = some 1 := by kernel_rfl
@[go_sem] theorem fo109_1 : ftoT Try.prog 109 1 = some (3, 1) := by kernel_rfl
@[go_sem] theorem off109_2 : offT Try.prog 109 2 = some 2 := by kernel_rfl
@[go_sem] theorem fo109_2 : ftoT Try.prog 109 2 = some (3, 2) := by kernel_rfl
@[go_sem] theorem off109_3 : offT Try.prog 109 3 = some 3 := by kernel_rfl
@[go_sem] theorem fo109_3 : ftoT Try.prog 109 3 = some (4, 3) := by kernel_rfl
@[go_sem] theorem pl109 : placesT Try.prog 109 = some [(0, 1), (1, 1), (2, 1), (3, 1)] := by kernel_rfl
@[go_sem] theorem eq109 : eqShape Try.prog 109 = some [.int .i64, .int .i64, .int .i64, .bool] := by kernel_rfl
@[go_sem] theorem sz110 : szT Try.prog 110 = some 4 := by kernel_rfl
@[go_sem] theorem ag110 : aggT Try.prog 110 = some true := by kernel_rfl
@[go_sem] theorem by110 : bytesT Try.prog 110 = some 32 := by kernel_rfl
@[go_sem] theorem zr110 : zeroT Try.prog 110 = some [.v (.int .i64 0), .v (.int .i64 0), .v (.int .i64 0), .v (.bool false)] := by kernel_rfl
@[go_sem] theorem off110_0 : offT Try.prog 110 0 = some 0 := by kernel_rfl
@[go_sem] theorem fo110_0 : ftoT Try.prog 110 0 = some (3, 0) := by kernel_rfl
@[go_sem] theorem off110_1 : offT Try.prog 110 1 = some 1 := by kernel_rfl
@[go_sem] theorem fo110_1 : ftoT Try.prog 110 1 = some (3, 1) := by kernel_rfl
@[go_sem] theorem off110_2 : offT Try.prog 110 2 = some 2 := by kernel_rfl
@[go_sem] theorem fo110_2 : ftoT Try.prog 110 2 = some (3, 2) := by kernel_rfl
@[go_sem] theorem off110_3 : offT Try.prog 110 3 = some 3 := by kernel_rfl
@[go_sem] theorem fo110_3 : ftoT Try.prog 110 3 = some (4, 3) := by kernel_rfl
@[go_sem] theorem pl110 : placesT Try.prog 110 = some [(0, 1), (1, 1), (2, 1), (3, 1)] := by kernel_rfl
@[go_sem] theorem eq110 : eqShape Try.prog 110 = some [.int .i64, .int .i64, .int .i64, .bool] := by kernel_rfl
@[go_sem] theorem sz112 : szT Try.prog 112 = some 1 := by kernel_rfl
@[go_sem] theorem ag112 : aggT Try.prog 112 = some false := by kernel_rfl
@[go_sem] theorem by112 : bytesT Try.prog 112 = some 8 := by kernel_rfl
@[go_sem] theorem sz114 : szT Try.prog 114 = some 1 := by kernel_rfl
@[go_sem] theorem ag114 : aggT Try.prog 114 = some false := by kernel_rfl
@[go_sem] theorem by114 : bytesT Try.prog 114 = some 8 := by kernel_rfl
@[go_sem] theorem sz115 : szT Try.prog 115 = some 1 := by kernel_rfl
@[go_sem] theorem ag115 : aggT Try.prog 115 = some false := by kernel_rfl
@[go_sem] theorem by115 : bytesT Try.prog 115 = some 24 := by kernel_rfl
@[go_sem] theorem zr115 : zeroT Try.prog 115 = some [.nil] := by kernel_rfl
@[go_sem] theorem sz116 : szT Try.prog 116 = some 10 := by kernel_rfl
@[go_sem] theorem ag116 : aggT Try.prog 116 = some true := by kernel_rfl
@[go_sem] theorem by116 : bytesT Try.prog 116 = some 112 := by kernel_rfl
@[go_sem] theorem zr116 : zeroT Try.prog 116 = some [.v (.int .i64 0), .v (.int .i64 0), .nil, .nil, .v (.int .i64 0), .v (.int .i64 0), .v (.int .i64 0), .v (.int .i64 0), .v (.int .i64 0), .v (.int .i64 0)] := by kernel_rfl
@[go_sem] theorem off116_0 : offT Try.prog 116 0 = some 0 := by kernel_rfl
@[go_sem] theorem fo116_0 : ftoT Try.prog 116 0 = some (24, 0) := by kernel_rfl
@[go_sem] theorem off116_1 : offT Try.prog 116 1 = some 3 := by kernel_rfl
@[go_sem] theorem fo116_1 : ftoT Try.prog 116 1 = some (115, 3) := by kernel_rfl
@[go_sem] theorem off116_2 : offT Try.prog 116 2 = some 4 := by kernel_rfl
@[go_sem] theorem fo116_2 : ftoT Try.prog 116 2 = some (89, 4) := by kernel_rfl
@[go_sem] theorem off116_3 : offT Try.prog 116 3 = some 8 := by kernel_rfl
@[go_sem] theorem fo116_3 : ftoT Try.prog 116 3 = some (87, 8) := by kernel_rfl
@[go_sem] theorem pl116 : placesT Try.prog 116 = some [(0, 3), (3, 1), (4, 4), (8, 2)] := by kernel_rfl
@[go_sem] theorem sz117 : szT Try.prog 117 = some 10 := by kernel_rfl
@[go_sem] theorem ag117 : aggT Try.prog 117 = some true := by kernel_rfl
@[go_sem] theorem by117 : bytesT Try.prog 117 = some 112 := by kernel_rfl
@[go_sem] theorem zr117 : zeroT Try.prog 117 = some [.v (.int .i64 0), .v (.int .i64 0), .nil, .nil, .v (.int .i64 0), .v (.int .i64 0), .v (.int .i64 0), .v (.int .i64 0), .v (.int .i64 0), .v (.int .i64 0)] := by kernel_rfl
@[go_sem] theorem off117_0 : offT Try.prog 117 0 = some 0 := by kernel_rfl
@[go_sem] theorem fo117_0 : ftoT Try.prog 117 0 = some (24, 0) := by kernel_rfl
@[go_sem] theorem off117_1 : offT Try.prog 117 1 = some 3 := by kernel_rfl
@[go_sem] theorem fo117_1 : ftoT Try.prog 117 1 = some (115, 3) := by kernel_rfl
@[go_sem] theorem off117_2 : offT Try.prog 117 2 = some 4 := by kernel_rfl
@[go_sem] theorem fo117_2 : ftoT Try.prog 117 2 = some (89, 4) := by kernel_rfl
@[go_sem] theorem off117_3 : offT Try.prog 117 3 = some 8 := by kernel_rfl
@[go_sem] theorem fo117_3 : ftoT Try.prog 117 3 = some (87, 8) := by kernel_rfl
@[go_sem] theorem pl117 : placesT Try.prog 117 = some [(0, 3), (3, 1), (4, 4), (8, 2)] := by kernel_rfl
@[go_sem] theorem sz118 : szT Try.prog 118 = some 4 := by kernel_rfl
@[go_sem] theorem ag118 : aggT Try.prog 118 = some true := by kernel_rfl
@[go_sem] theorem by118 : bytesT Try.prog 118 = some 32 := by kernel_rfl
@[go_sem] theorem zr118 : zeroT Try.prog 118 = some [.v (.int .i64 0), .v (.int .i64 0), .v (.int .i64 0), .v (.int .i64 0)] := by kernel_rfl
@[go_sem] theorem off118_0 : offT Try.prog 118 0 = some 0 := by kernel_rfl
@[go_sem] theorem fo118_0 : ftoT Try.prog 118 0 = some (3, 0) := by kernel_rfl
@[go_sem] theorem off118_1 : offT Try.prog 118 1 = some 1 := by kernel_rfl
@[go_sem] theorem fo118_1 : ftoT Try.prog 118 1 = some (3, 1) := by kernel_rfl
@[go_sem] theorem off118_2 : offT Try.prog 118 2 = some 2 := by kernel_rfl
@[go_sem] theorem fo118_2 : ftoT Try.prog 118 2 = some (92, 2) := by kernel_rfl
@[go_sem] theorem pl118 : placesT Try.prog 118 = some [(0, 1), (1, 1), (2, 2)] := by kernel_rfl
@[go_sem] theorem sz119 : szT Try.prog 119 = some 4 := by kernel_rfl
@[go_sem] theorem ag119 : aggT Try.prog 119 = some true := by kernel_rfl
@[go_sem] theorem by119 : bytesT Try.prog 119 = some 32 := by kernel_rfl
@[go_sem] theorem zr119 : zeroT Try.prog 119 = some [.v (.int .i64 0), .v (.int .i64 0), .v (.int .i64 0), .v (.int .i64 0)] := by kernel_rfl
@[go_sem] theorem off119_0 : offT Try.prog 119 0 = some 0 := by kernel_rfl
@[go_sem] theorem fo119_0 : ftoT Try.prog 119 0 = some (3, 0) := by kernel_rfl
@[go_sem] theorem off119_1 : offT Try.prog 119 1 = some 1 := by kernel_rfl
@[go_sem] theorem fo119_1 : ftoT Try.prog 119 1 = some (3, 1) := by kernel_rfl
@[go_sem] theorem off119_2 : offT Try.prog 119 2 = some 2 := by kernel_rfl
@[go_sem] theorem fo119_2 : ftoT Try.prog 119 2 = some (92, 2) := by kernel_rfl
@[go_sem] theorem pl119 : placesT Try.prog 119 = some [(0, 1), (1, 1), (2, 2)] := by kernel_rfl
@[go_sem] theorem sz120 : szT Try.prog 120 = some 1 := by kernel_rfl
@[go_sem] theorem ag120 : aggT Try.prog 120 = some false := by kernel_rfl
@[go_sem] theorem by120 : bytesT Try.prog 120 = some 8 := by kernel_rfl
@[go_sem] theorem sz121 : szT Try.prog 121 = some 1 := by kernel_rfl
@[go_sem] theorem ag121 : aggT Try.prog 121 = some false := by kernel_rfl
@[go_sem] theorem by121 : bytesT Try.prog 121 = some 8 := by kernel_rfl
@[go_sem] theorem sz122 : szT Try.prog 122 = some 1 := by kernel_rfl
@[go_sem] theorem ag122 : aggT Try.prog 122 = some false := by kernel_rfl
@[go_sem] theorem by122 : bytesT Try.prog 122 = some 8 := by kernel_rfl
@[go_sem] theorem sz123 : szT Try.prog 123 = some 1 := by kernel_rfl
@[go_sem] theorem ag123 : aggT Try.prog 123 = some false := by kernel_rfl
@[go_sem] theorem by123 : bytesT Try.prog 123 = some 8 := by kernel_rfl
@[go_sem] theorem sz124 : szT Try.prog 124 = some 1 := by kernel_rfl
@[go_sem] theorem ag124 : aggT Try.prog 124 = some false := by kernel_rfl
@[go_sem] theorem by124 : bytesT Try.prog 124 = some 8 := by kernel_rfl
@[go_sem] theorem sz126 : szT Try.prog 126 = some 1 := by kernel_rfl
@[go_sem] theorem ag126 : aggT Try.prog 126 = some false := by kernel_rfl
@[go_sem] theorem by126 : bytesT Try.prog 126 = some 8 := by kernel_rfl
@[go_sem] theorem sz127 : szT Try.prog 127 = some 1 := by kernel_rfl
@[go_sem] theorem ag127 : aggT Try.prog 127 = some false := by kernel_rfl
@[go_sem] theorem by127 : bytesT Try.prog 127 = some 8 := by kernel_rfl
@[go_sem] theorem zr127 : zeroT Try.prog 127 = some [.v (.pointer none)] := by kernel_rfl
@[go_sem] theorem sz129 : szT Try.prog 129 = some 1 := by kernel_rfl
@[go_sem] theorem ag129 : aggT Try.prog 129 = some false := by kernel_rfl
@[go_sem] theorem by129 : bytesT Try.prog 129 = some 8 := by kernel_rfl
@[go_sem] theorem sz130 : szT Try.prog 130 = some 1 := by kernel_rfl
@[go_sem] theorem ag130 : aggT Try.prog 130 = some false := by kernel_rfl
@[go_sem] theorem by130 : bytesT Try.prog 130 = some 8 := by kernel_rfl
@[go_sem] theorem sz131 : szT Try.prog 131 = some 1 := by kernel_rfl
@[go_sem] theorem ag131 : aggT Try.prog 131 = some false := by kernel_rfl
@[go_sem] theorem by131 : bytesT Try.prog 131 = some 8 := by kernel_rfl
@[go_sem] theorem zr131 : zeroT Try.prog 131 = some [.v (.pointer none)] := by kernel_rfl
@[go_sem] theorem sz132 : szT Try.prog 132 = some 1 := by kernel_rfl
@[go_sem] theorem ag132 : aggT Try.prog 132 = some false := by kernel_rfl
@[go_sem] theorem by132 : bytesT Try.prog 132 = some 8 := by kernel_rfl
@[go_sem] theorem sz133 : szT Try.prog 133 = some 1 := by kernel_rfl
@[go_sem] theorem ag133 : aggT Try.prog 133 = some false := by kernel_rfl
@[go_sem] theorem by133 : bytesT Try.prog 133 = some 8 := by kernel_rfl
@[go_sem] theorem sz134 : szT Try.prog 134 = some 1 := by kernel_rfl
@[go_sem] theorem ag134 : aggT Try.prog 134 = some false := by kernel_rfl
@[go_sem] theorem by134 : bytesT Try.prog 134 = some 8 := by kernel_rfl
@[go_sem] theorem sz135 : szT Try.prog 135 = some 1 := by kernel_rfl
@[go_sem] theorem ag135 : aggT Try.prog 135 = some false := by kernel_rfl
@[go_sem] theorem by135 : bytesT Try.prog 135 = some 8 := by kernel_rfl
@[go_sem] theorem sz136 : szT Try.prog 136 = some 1 := by kernel_rfl
@[go_sem] theorem ag136 : aggT Try.prog 136 = some false := by kernel_rfl
@[go_sem] theorem by136 : bytesT Try.prog 136 = some 8 := by kernel_rfl
@[go_sem] theorem zr136 : zeroT Try.prog 136 = some [.v (.pointer none)] := by kernel_rfl
@[go_sem] theorem sz137 : szT Try.prog 137 = some 1 := by kernel_rfl
@[go_sem] theorem ag137 : aggT Try.prog 137 = some false := by kernel_rfl
@[go_sem] theorem by137 : bytesT Try.prog 137 = some 8 := by kernel_rfl
@[go_sem] theorem sz138 : szT Try.prog 138 = some 1 := by kernel_rfl
@[go_sem] theorem ag138 : aggT Try.prog 138 = some false := by kernel_rfl
@[go_sem] theorem by138 : bytesT Try.prog 138 = some 8 := by kernel_rfl
@[go_sem] theorem sz139 : szT Try.prog 139 = some 1 := by kernel_rfl
@[go_sem] theorem ag139 : aggT Try.prog 139 = some false := by kernel_rfl
@[go_sem] theorem by139 : bytesT Try.prog 139 = some 8 := by kernel_rfl
@[go_sem] theorem sz140 : szT Try.prog 140 = some 9 := by kernel_rfl
@[go_sem] theorem ag140 : aggT Try.prog 140 = some true := by kernel_rfl
@[go_sem] theorem by140 : bytesT Try.prog 140 = some 72 := by kernel_rfl
@[go_sem] theorem zr140 : zeroT Try.prog 140 = some [.v .nilFunc, .v .nilFunc, .v .nilFunc, .v .nilFunc, .v .nilFunc, .v .nilFunc, .v .nilFunc, .v .nilFunc, .v .nilFunc] := by kernel_rfl
@[go_sem] theorem pl140 : placesT Try.prog 140 = some [(0, 1), (1, 1), (2, 1), (3, 1), (4, 1), (5, 1), (6, 1), (7, 1), (8, 1)] := by kernel_rfl
@[go_sem] theorem sz141 : szT Try.prog 141 = some 1 := by kernel_rfl
@[go_sem] theorem ag141 : aggT Try.prog 141 = some false := by kernel_rfl
@[go_sem] theorem by141 : bytesT Try.prog 141 = some 8 := by kernel_rfl
@[go_sem] theorem sz147 : szT Try.prog 147 = some 1 := by kernel_rfl
@[go_sem] theorem ag147 : aggT Try.prog 147 = some false := by kernel_rfl
@[go_sem] theorem by147 : bytesT Try.prog 147 = some 4 := by kernel_rfl
@[go_sem] theorem zr147 : zeroT Try.prog 147 = some [.v (.int .u32 0)] := by kernel_rfl
@[go_sem] theorem sz151 : szT Try.prog 151 = some 1 := by kernel_rfl
@[go_sem] theorem ag151 : aggT Try.prog 151 = some false := by kernel_rfl
@[go_sem] theorem by151 : bytesT Try.prog 151 = some 8 := by kernel_rfl
@[go_sem] theorem zr151 : zeroT Try.prog 151 = some [.v (.pointer none)] := by kernel_rfl
attribute [go_sem] Try.underlying1 Try.underlying2 Try.underlying3 Try.underlying4 Try.underlying5 Try.underlying9 Try.underlying21 Try.underlying22 Try.underlying23 Try.underlying24 Try.underlying25 Try.underlying26 Try.underlying27 Try.underlying28 Try.underlying29 Try.underlying30 Try.underlying32 Try.underlying33 Try.underlying34 Try.underlying35 Try.underlying36 Try.underlying37 Try.underlying38 Try.underlying39 Try.underlying40 Try.underlying41 Try.underlying42 Try.underlying43 Try.underlying44 Try.underlying45 Try.underlying46 Try.underlying47 Try.underlying49 Try.underlying51 Try.underlying52 Try.underlying53 Try.underlying54 Try.underlying55 Try.underlying56 Try.underlying57 Try.underlying58 Try.underlying59 Try.underlying60 Try.underlying62 Try.underlying64 Try.underlying65 Try.underlying66 Try.underlying67 Try.underlying68 Try.underlying69 Try.underlying70 Try.underlying71 Try.underlying72 Try.underlying73 Try.underlying74 Try.underlying75 Try.underlying76 Try.underlying77 Try.underlying78 Try.underlying79 Try.underlying80 Try.underlying82 Try.underlying83 Try.underlying84 Try.underlying85 Try.underlying86 Try.underlying87 Try.underlying88 Try.underlying89 Try.underlying90 Try.underlying91 Try.underlying92 Try.underlying93 Try.underlying94 Try.underlying95 Try.underlying96 Try.underlying97 Try.underlying98 Try.underlying99 Try.underlying100 Try.underlying101 Try.underlying102 Try.underlying103 Try.underlying104 Try.underlying105 Try.underlying106 Try.underlying107 Try.underlying108 Try.underlying109 Try.underlying110 Try.underlying112 Try.underlying114 Try.underlying115 Try.underlying116 Try.underlying117 Try.underlying118 Try.underlying119 Try.underlying120 Try.underlying121 Try.underlying122 Try.underlying123 Try.underlying124 Try.underlying126 Try.underlying127 Try.underlying129 Try.underlying130 Try.underlying131 Try.underlying132 Try.underlying133 Try.underlying134 Try.underlying135 Try.underlying136 Try.underlying137 Try.underlying138 Try.underlying139 Try.underlying140 Try.underlying141 Try.underlying147 Try.underlying151

theorem mixed : Try.prog.follows .mixedOrders = true := by kernel_rfl
theorem known3 : Known Try.prog 3 := ⟨Try.f3, Try.func3, rfl, by kernel_rfl⟩   -- sinnet/sinnetlaw10.TreePlays
theorem res3 : Try.f3.results = List.toArray [ResultVar.tmp 6] := rfl
theorem known4 : Known Try.prog 4 := ⟨Try.f4, Try.func4, rfl, by kernel_rfl⟩   -- sinnet/sinnetlaw10.TreeOnce
theorem res4 : Try.f4.results = List.toArray [ResultVar.tmp 6] := rfl
theorem known5 : Known Try.prog 5 := ⟨Try.f5, Try.func5, rfl, by kernel_rfl⟩   -- sinnet/sinnetlaw10.TreeNil
theorem res5 : Try.f5.results = List.toArray [ResultVar.tmp 2] := rfl
theorem known6 : Known Try.prog 6 := ⟨Try.f6, Try.func6, rfl, by kernel_rfl⟩   -- sinnet/sinnetlaw10.TreeRows
theorem res6 : Try.f6.results = List.toArray [ResultVar.tmp 6] := rfl
theorem known7 : Known Try.prog 7 := ⟨Try.f7, Try.func7, rfl, by kernel_rfl⟩   -- sinnet/sinnetlaw10.awake
theorem res7 : Try.f7.results = List.toArray [ResultVar.tmp 0] := rfl
theorem known8 : Known Try.prog 8 := ⟨Try.f8, Try.func8, rfl, by kernel_rfl⟩   -- sinnet/sinnetref01.Few
theorem res8 : Try.f8.results = List.toArray [ResultVar.tmp 2] := rfl
theorem known9 : Known Try.prog 9 := ⟨Try.f9, Try.func9, rfl, by kernel_rfl⟩   -- sinnet/sinnetlaw10.few
theorem res9 : Try.f9.results = List.toArray [ResultVar.tmp 2] := rfl
theorem known10 : Known Try.prog 10 := ⟨Try.f10, Try.func10, rfl, by kernel_rfl⟩   -- sinnet/tree.New
theorem res10 : Try.f10.results = List.toArray [ResultVar.tmp 4, ResultVar.tmp 5] := rfl
theorem known11 : Known Try.prog 11 := ⟨Try.f11, Try.func11, rfl, by kernel_rfl⟩   -- sinnet/sinnetref02.New
theorem res11 : Try.f11.results = List.toArray [ResultVar.tmp 4] := rfl
theorem known12 : Known Try.prog 12 := ⟨Try.f12, Try.func12, rfl, by kernel_rfl⟩   -- sinnet/sinnetref08.Bits
theorem res12 : Try.f12.results = List.toArray [ResultVar.tmp 2] := rfl
theorem known13 : Known Try.prog 13 := ⟨Try.f13, Try.func13, rfl, by kernel_rfl⟩   -- (*sinnet/tree.Tree).Make
theorem res13 : Try.f13.results = List.toArray [ResultVar.tmp 8] := rfl
theorem known14 : Known Try.prog 14 := ⟨Try.f14, Try.func14, rfl, by kernel_rfl⟩   -- (*sinnet/sinnetref10.Tree).Make
theorem res14 : Try.f14.results = List.toArray [ResultVar.tmp 8] := rfl
theorem known15 : Known Try.prog 15 := ⟨Try.f15, Try.func15, rfl, by kernel_rfl⟩   -- (*sinnet/tree.Tree).Mark
theorem res15 : Try.f15.results = List.toArray [ResultVar.tmp 6] := rfl
theorem known16 : Known Try.prog 16 := ⟨Try.f16, Try.func16, rfl, by kernel_rfl⟩   -- (*sinnet/sinnetref10.Tree).Mark
theorem res16 : Try.f16.results = List.toArray [ResultVar.tmp 6] := rfl
theorem known17 : Known Try.prog 17 := ⟨Try.f17, Try.func17, rfl, by kernel_rfl⟩   -- (*sinnet/tree.Tree).Claim
theorem res17 : Try.f17.results = List.toArray [ResultVar.tmp 6, ResultVar.tmp 7, ResultVar.tmp 8] := rfl
theorem known18 : Known Try.prog 18 := ⟨Try.f18, Try.func18, rfl, by kernel_rfl⟩   -- (*sinnet/sinnetref10.Tree).Claim
theorem res18 : Try.f18.results = List.toArray [ResultVar.tmp 6, ResultVar.tmp 7, ResultVar.tmp 8] := rfl
theorem known19 : Known Try.prog 19 := ⟨Try.f19, Try.func19, rfl, by kernel_rfl⟩   -- sinnet/sinnetref02.SameInts
theorem res19 : Try.f19.results = List.toArray [ResultVar.tmp 4] := rfl
theorem known20 : Known Try.prog 20 := ⟨Try.f20, Try.func20, rfl, by kernel_rfl⟩   -- (sinnet/sleep.Set).All
theorem res20 : Try.f20.results = List.toArray [ResultVar.tmp 2] := rfl
theorem known21 : Known Try.prog 21 := ⟨Try.f21, Try.func21, rfl, by kernel_rfl⟩   -- (*sinnet/tree.Tree).Hand
theorem res21 : Try.f21.results = List.toArray [ResultVar.tmp 6] := rfl
theorem known22 : Known Try.prog 22 := ⟨Try.f22, Try.func22, rfl, by kernel_rfl⟩   -- (*sinnet/sinnetref10.Tree).Find
theorem res22 : Try.f22.results = List.toArray [ResultVar.tmp 4] := rfl
theorem known23 : Known Try.prog 23 := ⟨Try.f23, Try.func23, rfl, by kernel_rfl⟩   -- (*sinnet/sinnetref10.Node).Left
theorem res23 : Try.f23.results = List.toArray [ResultVar.tmp 2] := rfl
theorem known24 : Known Try.prog 24 := ⟨Try.f24, Try.func24, rfl, by kernel_rfl⟩   -- (*sinnet/tree.Tree).At
theorem res24 : Try.f24.results = List.toArray [ResultVar.tmp 4, ResultVar.tmp 5, ResultVar.tmp 6] := rfl
theorem known25 : Known Try.prog 25 := ⟨Try.f25, Try.func25, rfl, by kernel_rfl⟩   -- (*sinnet/sinnetref10.Tree).At
theorem res25 : Try.f25.results = List.toArray [ResultVar.tmp 4, ResultVar.tmp 5] := rfl
theorem known26 : Known Try.prog 26 := ⟨Try.f26, Try.func26, rfl, by kernel_rfl⟩   -- (*sinnet/tree.Tree).Owner
theorem res26 : Try.f26.results = List.toArray [ResultVar.tmp 4] := rfl
theorem known27 : Known Try.prog 27 := ⟨Try.f27, Try.func27, rfl, by kernel_rfl⟩   -- (*sinnet/tree.Tree).Left
theorem res27 : Try.f27.results = List.toArray [ResultVar.tmp 4] := rfl
theorem known28 : Known Try.prog 28 := ⟨Try.f28, Try.func28, rfl, by kernel_rfl⟩   -- (*sinnet/tree.Tree).Asleep
theorem res28 : Try.f28.results = List.toArray [ResultVar.tmp 4] := rfl
theorem known29 : Known Try.prog 29 := ⟨Try.f29, Try.func29, rfl, by kernel_rfl⟩   -- (*sinnet/tree.Tree).Len
theorem res29 : Try.f29.results = List.toArray [ResultVar.tmp 2] := rfl
theorem known30 : Known Try.prog 30 := ⟨Try.f30, Try.func30, rfl, by kernel_rfl⟩   -- (*sinnet/tree.Tree).Claims
theorem res30 : Try.f30.results = List.toArray [ResultVar.tmp 2] := rfl
theorem known31 : Known Try.prog 31 := ⟨Try.f31, Try.func31, rfl, by kernel_rfl⟩   -- (*sinnet/state.State).All
theorem res31 : Try.f31.results = List.toArray [ResultVar.tmp 2] := rfl
theorem known32 : Known Try.prog 32 := ⟨Try.f32, Try.func32, rfl, by kernel_rfl⟩   -- (*sinnet/sinnetref02.State).All
theorem res32 : Try.f32.results = List.toArray [ResultVar.tmp 2] := rfl
theorem known33 : Known Try.prog 33 := ⟨Try.f33, Try.func33, rfl, by kernel_rfl⟩   -- (*sinnet/state.State).Enabled
theorem res33 : Try.f33.results = List.toArray [ResultVar.tmp 4] := rfl
theorem known34 : Known Try.prog 34 := ⟨Try.f34, Try.func34, rfl, by kernel_rfl⟩   -- (sinnet/sleep.Set).Has
theorem res34 : Try.f34.results = List.toArray [ResultVar.tmp 4] := rfl
theorem known35 : Known Try.prog 35 := ⟨Try.f35, Try.func35, rfl, by kernel_rfl⟩   -- sinnet/sleep.Of
theorem res35 : Try.f35.results = List.toArray [ResultVar.tmp 2] := rfl
theorem known36 : Known Try.prog 36 := ⟨Try.f36, Try.func36, rfl, by kernel_rfl⟩   -- sinnet/state.New
theorem res36 : Try.f36.results = List.toArray [ResultVar.tmp 4, ResultVar.tmp 5] := rfl
theorem known37 : Known Try.prog 37 := ⟨Try.f37, Try.func37, rfl, by kernel_rfl⟩   -- sinnet/prog.Copy
theorem res37 : Try.f37.results = List.toArray [ResultVar.cell 2 24] := rfl
theorem known38 : Known Try.prog 38 := ⟨Try.f38, Try.func38, rfl, by kernel_rfl⟩   -- sinnet/sinnetref01.Right
theorem res38 : Try.f38.results = List.toArray [ResultVar.tmp 2] := rfl
theorem known39 : Known Try.prog 39 := ⟨Try.f39, Try.func39, rfl, by kernel_rfl⟩   -- (*sinnet/tree.Tree).find
theorem res39 : Try.f39.results = List.toArray [ResultVar.tmp 4] := rfl
theorem known40 : Known Try.prog 40 := ⟨Try.f40, Try.func40, rfl, by kernel_rfl⟩   -- sinnet/sinnetref08.In
theorem res40 : Try.f40.results = List.toArray [ResultVar.tmp 4] := rfl
theorem known41 : Known Try.prog 41 := ⟨Try.f41, Try.func41, rfl, by kernel_rfl⟩   -- (sinnet/sleep.Set).Union
theorem res41 : Try.f41.results = List.toArray [ResultVar.tmp 4] := rfl
theorem known42 : Known Try.prog 42 := ⟨Try.f42, Try.func42, rfl, by kernel_rfl⟩   -- (*sinnet/sinnetref02.State).Enabled
theorem res42 : Try.f42.results = List.toArray [ResultVar.tmp 4] := rfl
theorem known43 : Known Try.prog 43 := ⟨Try.f43, Try.func43, rfl, by kernel_rfl⟩   -- (*sinnet/tree.node).left
theorem res43 : Try.f43.results = List.toArray [ResultVar.tmp 2] := rfl
theorem known44 : Known Try.prog 44 := ⟨Try.f44, Try.func44, rfl, by kernel_rfl⟩   -- sinnet/sleep.Child
theorem res44 : Try.f44.results = List.toArray [ResultVar.tmp 8] := rfl
theorem known45 : Known Try.prog 45 := ⟨Try.f45, Try.func45, rfl, by kernel_rfl⟩   -- (sinnet/sleep.Set).With
theorem res45 : Try.f45.results = List.toArray [ResultVar.tmp 4] := rfl
theorem known46 : Known Try.prog 46 := ⟨Try.f46, Try.func46, rfl, by kernel_rfl⟩   -- sinnet/sinnetref08.Child
theorem res46 : Try.f46.results = List.toArray [ResultVar.tmp 8] := rfl
theorem known47 : Known Try.prog 47 := ⟨Try.f47, Try.func47, rfl, by kernel_rfl⟩   -- sinnet/state.Replay
theorem res47 : Try.f47.results = List.toArray [ResultVar.tmp 6, ResultVar.tmp 7, ResultVar.tmp 8] := rfl
theorem known48 : Known Try.prog 48 := ⟨Try.f48, Try.func48, rfl, by kernel_rfl⟩   -- (*sinnet/sinnetref02.State).Copy
theorem res48 : Try.f48.results = List.toArray [ResultVar.tmp 2] := rfl
theorem known49 : Known Try.prog 49 := ⟨Try.f49, Try.func49, rfl, by kernel_rfl⟩   -- sinnet/sinnetref10.Row
theorem res49 : Try.f49.results = List.toArray [ResultVar.tmp 2] := rfl
theorem known50 : Known Try.prog 50 := ⟨Try.f50, Try.func50, rfl, by kernel_rfl⟩   -- (*sinnet/sinnetref02.State).Step
theorem res50 : Try.f50.results = List.toArray [ResultVar.cell 4 110, ResultVar.tmp 5] := rfl
theorem known51 : Known Try.prog 51 := ⟨Try.f51, Try.func51, rfl, by kernel_rfl⟩   -- (*sinnet/state.State).Threads
theorem res51 : Try.f51.results = List.toArray [ResultVar.tmp 2] := rfl
theorem known52 : Known Try.prog 52 := ⟨Try.f52, Try.func52, rfl, by kernel_rfl⟩   -- (*sinnet/state.State).Next
theorem res52 : Try.f52.results = List.toArray [ResultVar.cell 4 110, ResultVar.tmp 5] := rfl
theorem known53 : Known Try.prog 53 := ⟨Try.f53, Try.func53, rfl, by kernel_rfl⟩   -- sinnet/sleep.bit
theorem res53 : Try.f53.results = List.toArray [ResultVar.tmp 2] := rfl
theorem known54 : Known Try.prog 54 := ⟨Try.f54, Try.func54, rfl, by kernel_rfl⟩   -- sinnet/prog.Right
theorem res54 : Try.f54.results = List.toArray [ResultVar.tmp 2] := rfl
theorem known55 : Known Try.prog 55 := ⟨Try.f55, Try.func55, rfl, by kernel_rfl⟩   -- slices.Clone[[][]sinnet/api.Instr,[]sinnet/api.Instr]
theorem res55 : Try.f55.results = List.toArray [ResultVar.tmp 2] := rfl
theorem known56 : Known Try.prog 56 := ⟨Try.f56, Try.func56, rfl, by kernel_rfl⟩   -- slices.Clone[[]sinnet/api.Instr,sinnet/api.Instr]
theorem res56 : Try.f56.results = List.toArray [ResultVar.tmp 2] := rfl
theorem known57 : Known Try.prog 57 := ⟨Try.f57, Try.func57, rfl, by kernel_rfl⟩   -- sinnet/sinnetref01.within
theorem res57 : Try.f57.results = List.toArray [ResultVar.tmp 6] := rfl
theorem known58 : Known Try.prog 58 := ⟨Try.f58, Try.func58, rfl, by kernel_rfl⟩   -- sinnet/sinnetref01.Instr
theorem res58 : Try.f58.results = List.toArray [ResultVar.tmp 6] := rfl
theorem known59 : Known Try.prog 59 := ⟨Try.f59, Try.func59, rfl, by kernel_rfl⟩   -- (*sinnet/sinnetref02.State).Next
theorem res59 : Try.f59.results = List.toArray [ResultVar.cell 4 110, ResultVar.tmp 5] := rfl
theorem known60 : Known Try.prog 60 := ⟨Try.f60, Try.func60, rfl, by kernel_rfl⟩   -- (sinnet/sleep.Set).Without
theorem res60 : Try.f60.results = List.toArray [ResultVar.tmp 4] := rfl
theorem known61 : Known Try.prog 61 := ⟨Try.f61, Try.func61, rfl, by kernel_rfl⟩   -- sinnet/event.Depends
theorem res61 : Try.f61.results = List.toArray [ResultVar.tmp 4] := rfl
theorem known62 : Known Try.prog 62 := ⟨Try.f62, Try.func62, rfl, by kernel_rfl⟩   -- sinnet/sinnetref03.Depends
theorem res62 : Try.f62.results = List.toArray [ResultVar.tmp 4] := rfl
theorem known63 : Known Try.prog 63 := ⟨Try.f63, Try.func63, rfl, by kernel_rfl⟩   -- (*sinnet/state.State).Step
theorem res63 : Try.f63.results = List.toArray [ResultVar.cell 4 110, ResultVar.tmp 5] := rfl
theorem known64 : Known Try.prog 64 := ⟨Try.f64, Try.func64, rfl, by kernel_rfl⟩   -- (*sinnet/state.State).instr
theorem res64 : Try.f64.results = List.toArray [ResultVar.cell 4 78, ResultVar.tmp 5] := rfl
theorem known65 : Known Try.prog 65 := ⟨Try.f65, Try.func65, rfl, by kernel_rfl⟩   -- sinnet/prog.within
theorem res65 : Try.f65.results = List.toArray [ResultVar.tmp 6] := rfl
theorem known66 : Known Try.prog 66 := ⟨Try.f66, Try.func66, rfl, by kernel_rfl⟩   -- sinnet/prog.Right$1
theorem res66 : Try.f66.results = List.toArray [ResultVar.tmp 4] := rfl
theorem known67 : Known Try.prog 67 := ⟨Try.f67, Try.func67, rfl, by kernel_rfl⟩   -- sinnet/prog.instr
theorem res67 : Try.f67.results = List.toArray [ResultVar.tmp 6] := rfl
theorem known68 : Known Try.prog 68 := ⟨Try.f68, Try.func68, rfl, by kernel_rfl⟩   -- slices.ContainsFunc[[]sinnet/api.Instr,sinnet/api.Instr]
theorem res68 : Try.f68.results = List.toArray [ResultVar.tmp 4] := rfl
theorem known69 : Known Try.prog 69 := ⟨Try.f69, Try.func69, rfl, by kernel_rfl⟩   -- sinnet/event.class
theorem res69 : Try.f69.results = List.toArray [ResultVar.tmp 2] := rfl
theorem known70 : Known Try.prog 70 := ⟨Try.f70, Try.func70, rfl, by kernel_rfl⟩   -- (*sinnet/state.State).is
theorem res70 : Try.f70.results = List.toArray [ResultVar.tmp 4] := rfl
theorem known71 : Known Try.prog 71 := ⟨Try.f71, Try.func71, rfl, by kernel_rfl⟩   -- (*sinnet/state.State).do
theorem res71 : Try.f71.results = List.toArray [] := rfl
theorem known72 : Known Try.prog 72 := ⟨Try.f72, Try.func72, rfl, by kernel_rfl⟩   -- slices.IndexFunc[[]sinnet/api.Instr,sinnet/api.Instr]
theorem res72 : Try.f72.results = List.toArray [ResultVar.tmp 4] := rfl
theorem known73 : Known Try.prog 73 := ⟨Try.f73, Try.func73, rfl, by kernel_rfl⟩   -- (*sinnet/state.State).load
theorem res73 : Try.f73.results = List.toArray [] := rfl
theorem known74 : Known Try.prog 74 := ⟨Try.f74, Try.func74, rfl, by kernel_rfl⟩   -- (*sinnet/state.State).store
theorem res74 : Try.f74.results = List.toArray [] := rfl
theorem known75 : Known Try.prog 75 := ⟨Try.f75, Try.func75, rfl, by kernel_rfl⟩   -- (*sinnet/state.State).set
theorem res75 : Try.f75.results = List.toArray [] := rfl
theorem known76 : Known Try.prog 76 := ⟨Try.f76, Try.func76, rfl, by kernel_rfl⟩   -- (*sinnet/state.State).add
theorem res76 : Try.f76.results = List.toArray [] := rfl
theorem known77 : Known Try.prog 77 := ⟨Try.f77, Try.func77, rfl, by kernel_rfl⟩   -- (*sinnet/state.State).lock
theorem res77 : Try.f77.results = List.toArray [] := rfl
theorem known78 : Known Try.prog 78 := ⟨Try.f78, Try.func78, rfl, by kernel_rfl⟩   -- (*sinnet/state.State).unlock
theorem res78 : Try.f78.results = List.toArray [] := rfl
theorem known79 : Known Try.prog 79 := ⟨Try.f79, Try.func79, rfl, by kernel_rfl⟩   -- (*sinnet/state.State).jump
theorem res79 : Try.f79.results = List.toArray [] := rfl
theorem known80 : Known Try.prog 80 := ⟨Try.f80, Try.func80, rfl, by kernel_rfl⟩   -- (*sinnet/state.State).assert
theorem res80 : Try.f80.results = List.toArray [] := rfl
end Go.Proofs.Ytcfeklnmampndaa
