/-
  Closed facts of this seat's program: types and functions. Written by a program (wip/tools/facts.py).
-/
import Derived.Test.YtkoechchjiddhaaProg
import Derived.KernelRfl
import Derived.Test.YtkoechchjiddhaaLibB
set_option maxRecDepth 100000
namespace Go.Proofs.Ytkoechchjiddhaa
open Go Go.Sn
@[go_sem] theorem sz1 : szT Try.prog 1 = some 1 := by kernel_rfl
@[go_sem] theorem ag1 : aggT Try.prog 1 = some false := by kernel_rfl
@[go_sem] theorem by1 : bytesT Try.prog 1 = some 8 := by kernel_rfl
@[go_sem] theorem sz2 : szT Try.prog 2 = some 1 := by kernel_rfl
@[go_sem] theorem ag2 : aggT Try.prog 2 = some false := by kernel_rfl
@[go_sem] theorem by2 : bytesT Try.prog 2 = some 8 := by kernel_rfl
@[go_sem] theorem zr2 : zeroT Try.prog 2 = some [.v (.int .i64 0)] := by kernel_rfl
@[go_sem] theorem sz3 : szT Try.prog 3 = some 1 := by kernel_rfl
@[go_sem] theorem ag3 : aggT Try.prog 3 = some false := by kernel_rfl
@[go_sem] theorem by3 : bytesT Try.prog 3 = some 8 := by kernel_rfl
@[go_sem] theorem zr3 : zeroT Try.prog 3 = some [.v (.int .i64 0)] := by kernel_rfl
@[go_sem] theorem sz4 : szT Try.prog 4 = some 1 := by kernel_rfl
@[go_sem] theorem ag4 : aggT Try.prog 4 = some false := by kernel_rfl
@[go_sem] theorem by4 : bytesT Try.prog 4 = some 1 := by kernel_rfl
@[go_sem] theorem zr4 : zeroT Try.prog 4 = some [.v (.bool false)] := by kernel_rfl
@[go_sem] theorem sz5 : szT Try.prog 5 = some 1 := by kernel_rfl
@[go_sem] theorem ag5 : aggT Try.prog 5 = some false := by kernel_rfl
@[go_sem] theorem by5 : bytesT Try.prog 5 = some 1 := by kernel_rfl
@[go_sem] theorem zr5 : zeroT Try.prog 5 = some [.v (.int .u8 0)] := by kernel_rfl
@[go_sem] theorem sz9 : szT Try.prog 9 = some 1 := by kernel_rfl
@[go_sem] theorem ag9 : aggT Try.prog 9 = some false := by kernel_rfl
@[go_sem] theorem by9 : bytesT Try.prog 9 = some 16 := by kernel_rfl
@[go_sem] theorem zr9 : zeroT Try.prog 9 = some [.v (.string ⟨#[]⟩)] := by kernel_rfl
@[go_sem] theorem sz21 : szT Try.prog 21 = some 1 := by kernel_rfl
@[go_sem] theorem ag21 : aggT Try.prog 21 = some false := by kernel_rfl
@[go_sem] theorem by21 : bytesT Try.prog 21 = some 4 := by kernel_rfl
@[go_sem] theorem zr21 : zeroT Try.prog 21 = some [.v (.int .i32 0)] := by kernel_rfl
@[go_sem] theorem sz22 : szT Try.prog 22 = some 1 := by kernel_rfl
@[go_sem] theorem ag22 : aggT Try.prog 22 = some false := by kernel_rfl
@[go_sem] theorem by22 : bytesT Try.prog 22 = some 24 := by kernel_rfl
@[go_sem] theorem zr22 : zeroT Try.prog 22 = some [.nil] := by kernel_rfl
@[go_sem] theorem sz23 : szT Try.prog 23 = some 3 := by kernel_rfl
@[go_sem] theorem ag23 : aggT Try.prog 23 = some true := by kernel_rfl
@[go_sem] theorem by23 : bytesT Try.prog 23 = some 40 := by kernel_rfl
@[go_sem] theorem zr23 : zeroT Try.prog 23 = some [.v (.int .i64 0), .v (.int .i64 0), .nil] := by kernel_rfl
@[go_sem] theorem off23_0 : offT Try.prog 23 0 = some 0 := by kernel_rfl
@[go_sem] theorem fo23_0 : ftoT Try.prog 23 0 = some (3, 0) := by kernel_rfl
@[go_sem] theorem off23_1 : offT Try.prog 23 1 = some 1 := by kernel_rfl
@[go_sem] theorem fo23_1 : ftoT Try.prog 23 1 = some (3, 1) := by kernel_rfl
@[go_sem] theorem off23_2 : offT Try.prog 23 2 = some 2 := by kernel_rfl
@[go_sem] theorem fo23_2 : ftoT Try.prog 23 2 = some (22, 2) := by kernel_rfl
@[go_sem] theorem pl23 : placesT Try.prog 23 = some [(0, 1), (1, 1), (2, 1)] := by kernel_rfl
@[go_sem] theorem sz24 : szT Try.prog 24 = some 3 := by kernel_rfl
@[go_sem] theorem ag24 : aggT Try.prog 24 = some true := by kernel_rfl
@[go_sem] theorem by24 : bytesT Try.prog 24 = some 40 := by kernel_rfl
@[go_sem] theorem zr24 : zeroT Try.prog 24 = some [.v (.int .i64 0), .v (.int .i64 0), .nil] := by kernel_rfl
@[go_sem] theorem off24_0 : offT Try.prog 24 0 = some 0 := by kernel_rfl
@[go_sem] theorem fo24_0 : ftoT Try.prog 24 0 = some (3, 0) := by kernel_rfl
@[go_sem] theorem off24_1 : offT Try.prog 24 1 = some 1 := by kernel_rfl
@[go_sem] theorem fo24_1 : ftoT Try.prog 24 1 = some (3, 1) := by kernel_rfl
@[go_sem] theorem off24_2 : offT Try.prog 24 2 = some 2 := by kernel_rfl
@[go_sem] theorem fo24_2 : ftoT Try.prog 24 2 = some (22, 2) := by kernel_rfl
@[go_sem] theorem pl24 : placesT Try.prog 24 = some [(0, 1), (1, 1), (2, 1)] := by kernel_rfl
@[go_sem] theorem sz25 : szT Try.prog 25 = some 1 := by kernel_rfl
@[go_sem] theorem ag25 : aggT Try.prog 25 = some false := by kernel_rfl
@[go_sem] theorem by25 : bytesT Try.prog 25 = some 8 := by kernel_rfl
@[go_sem] theorem sz26 : szT Try.prog 26 = some 1 := by kernel_rfl
@[go_sem] theorem ag26 : aggT Try.prog 26 = some false := by kernel_rfl
@[go_sem] theorem by26 : bytesT Try.prog 26 = some 8 := by kernel_rfl
@[go_sem] theorem sz27 : szT Try.prog 27 = some 1 := by kernel_rfl
@[go_sem] theorem ag27 : aggT Try.prog 27 = some false := by kernel_rfl
@[go_sem] theorem by27 : bytesT Try.prog 27 = some 8 := by kernel_rfl
@[go_sem] theorem zr27 : zeroT Try.prog 27 = some [.v (.int .i64 0)] := by kernel_rfl
@[go_sem] theorem sz29 : szT Try.prog 29 = some 1 := by kernel_rfl
@[go_sem] theorem ag29 : aggT Try.prog 29 = some false := by kernel_rfl
@[go_sem] theorem by29 : bytesT Try.prog 29 = some 8 := by kernel_rfl
@[go_sem] theorem sz30 : szT Try.prog 30 = some 1 := by kernel_rfl
@[go_sem] theorem ag30 : aggT Try.prog 30 = some false := by kernel_rfl
@[go_sem] theorem by30 : bytesT Try.prog 30 = some 8 := by kernel_rfl
@[go_sem] theorem sz31 : szT Try.prog 31 = some 1 := by kernel_rfl
@[go_sem] theorem ag31 : aggT Try.prog 31 = some false := by kernel_rfl
@[go_sem] theorem by31 : bytesT Try.prog 31 = some 8 := by kernel_rfl
@[go_sem] theorem sz32 : szT Try.prog 32 = some 1 := by kernel_rfl
@[go_sem] theorem ag32 : aggT Try.prog 32 = some false := by kernel_rfl
@[go_sem] theorem by32 : bytesT Try.prog 32 = some 24 := by kernel_rfl
@[go_sem] theorem zr32 : zeroT Try.prog 32 = some [.nil] := by kernel_rfl
@[go_sem] theorem sz33 : szT Try.prog 33 = some 4 := by kernel_rfl
@[go_sem] theorem ag33 : aggT Try.prog 33 = some true := by kernel_rfl
@[go_sem] theorem by33 : bytesT Try.prog 33 = some 32 := by kernel_rfl
@[go_sem] theorem zr33 : zeroT Try.prog 33 = some [.v (.int .i64 0), .v (.int .i64 0), .v (.int .i64 0), .v (.int .i64 0)] := by kernel_rfl
@[go_sem] theorem off33_0 : offT Try.prog 33 0 = some 0 := by kernel_rfl
@[go_sem] theorem fo33_0 : ftoT Try.prog 33 0 = some (3, 0) := by kernel_rfl
@[go_sem] theorem off33_1 : offT Try.prog 33 1 = some 1 := by kernel_rfl
@[go_sem] theorem fo33_1 : ftoT Try.prog 33 1 = some (3, 1) := by kernel_rfl
@[go_sem] theorem off33_2 : offT Try.prog 33 2 = some 2 := by kernel_rfl
@[go_sem] theorem fo33_2 : ftoT Try.prog 33 2 = some (3, 2) := by kernel_rfl
@[go_sem] theorem off33_3 : offT Try.prog 33 3 = some 3 := by kernel_rfl
@[go_sem] theorem fo33_3 : ftoT Try.prog 33 3 = some (2, 3) := by kernel_rfl
@[go_sem] theorem pl33 : placesT Try.prog 33 = some [(0, 1), (1, 1), (2, 1), (3, 1)] := by kernel_rfl
@[go_sem] theorem eq33 : eqShape Try.prog 33 = some [.int .i64, .int .i64, .int .i64, .int .i64] := by kernel_rfl
@[go_sem] theorem sz34 : szT Try.prog 34 = some 4 := by kernel_rfl
@[go_sem] theorem ag34 : aggT Try.prog 34 = some true := by kernel_rfl
@[go_sem] theorem by34 : bytesT Try.prog 34 = some 32 := by kernel_rfl
@[go_sem] theorem zr34 : zeroT Try.prog 34 = some [.v (.int .i64 0), .v (.int .i64 0), .v (.int .i64 0), .v (.int .i64 0)] := by kernel_rfl
@[go_sem] theorem off34_0 : offT Try.prog 34 0 = some 0 := by kernel_rfl
@[go_sem] theorem fo34_0 : ftoT Try.prog 34 0 = some (3, 0) := by kernel_rfl
@[go_sem] theorem off34_1 : offT Try.prog 34 1 = some 1 := by kernel_rfl
@[go_sem] theorem fo34_1 : ftoT Try.prog 34 1 = some (3, 1) := by kernel_rfl
@[go_sem] theorem off34_2 : offT Try.prog 34 2 = some 2 := by kernel_rfl
@[go_sem] theorem fo34_2 : ftoT Try.prog 34 2 = some (3, 2) := by kernel_rfl
@[go_sem] theorem off34_3 : offT Try.prog 34 3 = some 3 := by kernel_rfl
@[go_sem] theorem fo34_3 : ftoT Try.prog 34 3 = some (2, 3) := by kernel_rfl
@[go_sem] theorem pl34 : placesT Try.prog 34 = some [(0, 1), (1, 1), (2, 1), (3, 1)] := by kernel_rfl
@[go_sem] theorem eq34 : eqShape Try.prog 34 = some [.int .i64, .int .i64, .int .i64, .int .i64] := by kernel_rfl
@[go_sem] theorem sz36 : szT Try.prog 36 = some 1 := by kernel_rfl
@[go_sem] theorem ag36 : aggT Try.prog 36 = some false := by kernel_rfl
@[go_sem] theorem by36 : bytesT Try.prog 36 = some 8 := by kernel_rfl
@[go_sem] theorem sz37 : szT Try.prog 37 = some 1 := by kernel_rfl
@[go_sem] theorem ag37 : aggT Try.prog 37 = some false := by kernel_rfl
@[go_sem] theorem by37 : bytesT Try.prog 37 = some 8 := by kernel_rfl
@[go_sem] theorem sz39 : szT Try.prog 39 = some 1 := by kernel_rfl
@[go_sem] theorem ag39 : aggT Try.prog 39 = some false := by kernel_rfl
@[go_sem] theorem by39 : bytesT Try.prog 39 = some 8 := by kernel_rfl
@[go_sem] theorem sz40 : szT Try.prog 40 = some 1 := by kernel_rfl
@[go_sem] theorem ag40 : aggT Try.prog 40 = some false := by kernel_rfl
@[go_sem] theorem by40 : bytesT Try.prog 40 = some 8 := by kernel_rfl
@[go_sem] theorem sz41 : szT Try.prog 41 = some 1 := by kernel_rfl
@[go_sem] theorem ag41 : aggT Try.prog 41 = some false := by kernel_rfl
@[go_sem] theorem by41 : bytesT Try.prog 41 = some 8 := by kernel_rfl
@[go_sem] theorem zr41 : zeroT Try.prog 41 = some [.v (.int .u64 0)] := by kernel_rfl
@[go_sem] theorem sz42 : szT Try.prog 42 = some 1 := by kernel_rfl
@[go_sem] theorem ag42 : aggT Try.prog 42 = some false := by kernel_rfl
@[go_sem] theorem by42 : bytesT Try.prog 42 = some 8 := by kernel_rfl
@[go_sem] theorem sz43 : szT Try.prog 43 = some 1 := by kernel_rfl
@[go_sem] theorem ag43 : aggT Try.prog 43 = some false := by kernel_rfl
@[go_sem] theorem by43 : bytesT Try.prog 43 = some 24 := by kernel_rfl
@[go_sem] theorem zr43 : zeroT Try.prog 43 = some [.nil] := by kernel_rfl
@[go_sem] theorem sz44 : szT Try.prog 44 = some 1 := by kernel_rfl
@[go_sem] theorem ag44 : aggT Try.prog 44 = some false := by kernel_rfl
@[go_sem] theorem by44 : bytesT Try.prog 44 = some 8 := by kernel_rfl
@[go_sem] theorem sz45 : szT Try.prog 45 = some 1 := by kernel_rfl
@[go_sem] theorem ag45 : aggT Try.prog 45 = some false := by kernel_rfl
@[go_sem] theorem by45 : bytesT Try.prog 45 = some 8 := by kernel_rfl
@[go_sem] theorem sz46 : szT Try.prog 46 = some 1 := by kernel_rfl
@[go_sem] theorem ag46 : aggT Try.prog 46 = some false := by kernel_rfl
@[go_sem] theorem by46 : bytesT Try.prog 46 = some 8 := by kernel_rfl
@[go_sem] theorem sz47 : szT Try.prog 47 = some 1 := by kernel_rfl
@[go_sem] theorem ag47 : aggT Try.prog 47 = some false := by kernel_rfl
@[go_sem] theorem by47 : bytesT Try.prog 47 = some 8 := by kernel_rfl
@[go_sem] theorem zr47 : zeroT Try.prog 47 = some [.v (.pointer none)] := by kernel_rfl
@[go_sem] theorem sz48 : szT Try.prog 48 = some 1 := by kernel_rfl
@[go_sem] theorem ag48 : aggT Try.prog 48 = some false := by kernel_rfl
@[go_sem] theorem by48 : bytesT Try.prog 48 = some 8 := by kernel_rfl
@[go_sem] theorem sz49 : szT Try.prog 49 = some 1 := by kernel_rfl
@[go_sem] theorem ag49 : aggT Try.prog 49 = some false := by kernel_rfl
@[go_sem] theorem by49 : bytesT Try.prog 49 = some 8 := by kernel_rfl
@[go_sem] theorem sz50 : szT Try.prog 50 = some 1 := by kernel_rfl
@[go_sem] theorem ag50 : aggT Try.prog 50 = some false := by kernel_rfl
@[go_sem] theorem by50 : bytesT Try.prog 50 = some 8 := by kernel_rfl
@[go_sem] theorem sz51 : szT Try.prog 51 = some 1 := by kernel_rfl
@[go_sem] theorem ag51 : aggT Try.prog 51 = some false := by kernel_rfl
@[go_sem] theorem by51 : bytesT Try.prog 51 = some 8 := by kernel_rfl
@[go_sem] theorem sz52 : szT Try.prog 52 = some 1 := by kernel_rfl
@[go_sem] theorem ag52 : aggT Try.prog 52 = some false := by kernel_rfl
@[go_sem] theorem by52 : bytesT Try.prog 52 = some 8 := by kernel_rfl
@[go_sem] theorem sz53 : szT Try.prog 53 = some 1 := by kernel_rfl
@[go_sem] theorem ag53 : aggT Try.prog 53 = some false := by kernel_rfl
@[go_sem] theorem by53 : bytesT Try.prog 53 = some 8 := by kernel_rfl
@[go_sem] theorem sz55 : szT Try.prog 55 = some 1 := by kernel_rfl
@[go_sem] theorem ag55 : aggT Try.prog 55 = some false := by kernel_rfl
@[go_sem] theorem by55 : bytesT Try.prog 55 = some 8 := by kernel_rfl
@[go_sem] theorem sz56 : szT Try.prog 56 = some 1 := by kernel_rfl
@[go_sem] theorem ag56 : aggT Try.prog 56 = some false := by kernel_rfl
@[go_sem] theorem by56 : bytesT Try.prog 56 = some 8 := by kernel_rfl
@[go_sem] theorem sz57 : szT Try.prog 57 = some 1 := by kernel_rfl
@[go_sem] theorem ag57 : aggT Try.prog 57 = some false := by kernel_rfl
@[go_sem] theorem by57 : bytesT Try.prog 57 = some 1 := by kernel_rfl
@[go_sem] theorem zr57 : zeroT Try.prog 57 = some [.v (.int .i8 0)] := by kernel_rfl
@[go_sem] theorem sz58 : szT Try.prog 58 = some 1 := by kernel_rfl
@[go_sem] theorem ag58 : aggT Try.prog 58 = some false := by kernel_rfl
@[go_sem] theorem by58 : bytesT Try.prog 58 = some 8 := by kernel_rfl
@[go_sem] theorem sz64 : szT Try.prog 64 = some 1 := by kernel_rfl
@[go_sem] theorem ag64 : aggT Try.prog 64 = some false := by kernel_rfl
@[go_sem] theorem by64 : bytesT Try.prog 64 = some 8 := by kernel_rfl
@[go_sem] theorem sz65 : szT Try.prog 65 = some 1 := by kernel_rfl
@[go_sem] theorem ag65 : aggT Try.prog 65 = some false := by kernel_rfl
@[go_sem] theorem by65 : bytesT Try.prog 65 = some 4 := by kernel_rfl
@[go_sem] theorem zr65 : zeroT Try.prog 65 = some [.v (.int .u32 0)] := by kernel_rfl
@[go_sem] theorem sz69 : szT Try.prog 69 = some 1 := by kernel_rfl
@[go_sem] theorem ag69 : aggT Try.prog 69 = some false := by kernel_rfl
@[go_sem] theorem by69 : bytesT Try.prog 69 = some 8 := by kernel_rfl
@[go_sem] theorem zr69 : zeroT Try.prog 69 = some [.v (.pointer none)] := by kernel_rfl
attribute [go_sem] Try.underlying1 Try.underlying2 Try.underlying3 Try.underlying4 Try.underlying5 Try.underlying9 Try.underlying21 Try.underlying22 Try.underlying23 Try.underlying24 Try.underlying25 Try.underlying26 Try.underlying27 Try.underlying29 Try.underlying30 Try.underlying31 Try.underlying32 Try.underlying33 Try.underlying34 Try.underlying36 Try.underlying37 Try.underlying39 Try.underlying40 Try.underlying41 Try.underlying42 Try.underlying43 Try.underlying44 Try.underlying45 Try.underlying46 Try.underlying47 Try.underlying48 Try.underlying49 Try.underlying50 Try.underlying51 Try.underlying52 Try.underlying53 Try.underlying55 Try.underlying56 Try.underlying57 Try.underlying58 Try.underlying64 Try.underlying65 Try.underlying69

theorem mixed : Try.prog.follows .mixedOrders = true := by kernel_rfl
theorem known3 : Known Try.prog 3 := ⟨Try.f3, Try.func3, rfl, by kernel_rfl⟩   -- sinnet/sinnetlaw01.ProgPrints
theorem res3 : Try.f3.results = List.toArray [ResultVar.tmp 2] := rfl
theorem known4 : Known Try.prog 4 := ⟨Try.f4, Try.func4, rfl, by kernel_rfl⟩   -- sinnet/sinnetlaw01.ProgReads
theorem res4 : Try.f4.results = List.toArray [ResultVar.tmp 2] := rfl
theorem known5 : Known Try.prog 5 := ⟨Try.f5, Try.func5, rfl, by kernel_rfl⟩   -- sinnet/sinnetlaw01.ProgOne
theorem res5 : Try.f5.results = List.toArray [ResultVar.tmp 6] := rfl
theorem known6 : Known Try.prog 6 := ⟨Try.f6, Try.func6, rfl, by kernel_rfl⟩   -- sinnet/sinnetlaw01.ProgSizes
theorem res6 : Try.f6.results = List.toArray [ResultVar.tmp 2] := rfl
theorem known7 : Known Try.prog 7 := ⟨Try.f7, Try.func7, rfl, by kernel_rfl⟩   -- sinnet/sinnetlaw01.ProgLess
theorem res7 : Try.f7.results = List.toArray [ResultVar.tmp 2] := rfl
theorem known8 : Known Try.prog 8 := ⟨Try.f8, Try.func8, rfl, by kernel_rfl⟩   -- sinnet/sinnetlaw01.ProgTurned
theorem res8 : Try.f8.results = List.toArray [ResultVar.tmp 2] := rfl
theorem known9 : Known Try.prog 9 := ⟨Try.f9, Try.func9, rfl, by kernel_rfl⟩   -- sinnet/sinnetlaw01.awake
theorem res9 : Try.f9.results = List.toArray [ResultVar.tmp 0] := rfl
theorem known10 : Known Try.prog 10 := ⟨Try.f10, Try.func10, rfl, by kernel_rfl⟩   -- sinnet/sinnetref01.Few
theorem res10 : Try.f10.results = List.toArray [ResultVar.tmp 2] := rfl
theorem known11 : Known Try.prog 11 := ⟨Try.f11, Try.func11, rfl, by kernel_rfl⟩   -- sinnet/prog.Print
theorem res11 : Try.f11.results = List.toArray [ResultVar.tmp 2, ResultVar.tmp 3] := rfl
theorem known12 : Known Try.prog 12 := ⟨Try.f12, Try.func12, rfl, by kernel_rfl⟩   -- sinnet/sinnetref01.Right
theorem res12 : Try.f12.results = List.toArray [ResultVar.tmp 2] := rfl
theorem known13 : Known Try.prog 13 := ⟨Try.f13, Try.func13, rfl, by kernel_rfl⟩   -- sinnet/prog.Right
theorem res13 : Try.f13.results = List.toArray [ResultVar.tmp 2] := rfl
theorem known14 : Known Try.prog 14 := ⟨Try.f14, Try.func14, rfl, by kernel_rfl⟩   -- sinnet/prog.Copy
theorem res14 : Try.f14.results = List.toArray [ResultVar.cell 2 24] := rfl
theorem known15 : Known Try.prog 15 := ⟨Try.f15, Try.func15, rfl, by kernel_rfl⟩   -- sinnet/prog.Same
theorem res15 : Try.f15.results = List.toArray [ResultVar.tmp 4] := rfl
theorem known16 : Known Try.prog 16 := ⟨Try.f16, Try.func16, rfl, by kernel_rfl⟩   -- sinnet/sinnetref01.Same
theorem res16 : Try.f16.results = List.toArray [ResultVar.tmp 4] := rfl
theorem known17 : Known Try.prog 17 := ⟨Try.f17, Try.func17, rfl, by kernel_rfl⟩   -- sinnet/prog.Read
theorem res17 : Try.f17.results = List.toArray [ResultVar.cell 2 24, ResultVar.tmp 3] := rfl
theorem known18 : Known Try.prog 18 := ⟨Try.f18, Try.func18, rfl, by kernel_rfl⟩   -- sinnet/sinnetref01.Print
theorem res18 : Try.f18.results = List.toArray [ResultVar.tmp 2] := rfl
theorem known19 : Known Try.prog 19 := ⟨Try.f19, Try.func19, rfl, by kernel_rfl⟩   -- sinnet/sinnetref01.Read
theorem res19 : Try.f19.results = List.toArray [ResultVar.cell 2 24, ResultVar.tmp 3] := rfl
theorem known20 : Known Try.prog 20 := ⟨Try.f20, Try.func20, rfl, by kernel_rfl⟩   -- sinnet/sinnetref01.within
theorem res20 : Try.f20.results = List.toArray [ResultVar.tmp 6] := rfl
theorem known21 : Known Try.prog 21 := ⟨Try.f21, Try.func21, rfl, by kernel_rfl⟩   -- sinnet/sinnetref01.Instr
theorem res21 : Try.f21.results = List.toArray [ResultVar.tmp 6] := rfl
theorem known22 : Known Try.prog 22 := ⟨Try.f22, Try.func22, rfl, by kernel_rfl⟩   -- sinnet/prog.within
theorem res22 : Try.f22.results = List.toArray [ResultVar.tmp 6] := rfl
theorem known23 : Known Try.prog 23 := ⟨Try.f23, Try.func23, rfl, by kernel_rfl⟩   -- sinnet/prog.Right$1
theorem res23 : Try.f23.results = List.toArray [ResultVar.tmp 4] := rfl
theorem known24 : Known Try.prog 24 := ⟨Try.f24, Try.func24, rfl, by kernel_rfl⟩   -- sinnet/prog.instr
theorem res24 : Try.f24.results = List.toArray [ResultVar.tmp 6] := rfl
theorem known25 : Known Try.prog 25 := ⟨Try.f25, Try.func25, rfl, by kernel_rfl⟩   -- slices.ContainsFunc[[]sinnet/api.Instr,sinnet/api.Instr]
theorem res25 : Try.f25.results = List.toArray [ResultVar.tmp 4] := rfl
theorem known26 : Known Try.prog 26 := ⟨Try.f26, Try.func26, rfl, by kernel_rfl⟩   -- slices.Clone[[][]sinnet/api.Instr,[]sinnet/api.Instr]
theorem res26 : Try.f26.results = List.toArray [ResultVar.tmp 2] := rfl
theorem known27 : Known Try.prog 27 := ⟨Try.f27, Try.func27, rfl, by kernel_rfl⟩   -- slices.Clone[[]sinnet/api.Instr,sinnet/api.Instr]
theorem res27 : Try.f27.results = List.toArray [ResultVar.tmp 2] := rfl
theorem known28 : Known Try.prog 28 := ⟨Try.f28, Try.func28, rfl, by kernel_rfl⟩   -- slices.EqualFunc[[][]sinnet/api.Instr,[][]sinnet/api.Instr,[]sinnet/api.Instr,[]sinnet/api.Instr]
theorem res28 : Try.f28.results = List.toArray [ResultVar.tmp 6] := rfl
theorem known29 : Known Try.prog 29 := ⟨Try.f29, Try.func29, rfl, by kernel_rfl⟩   -- slices.Equal[[]sinnet/api.Instr,sinnet/api.Instr]
theorem res29 : Try.f29.results = List.toArray [ResultVar.tmp 4] := rfl
theorem known30 : Known Try.prog 30 := ⟨Try.f30, Try.func30, rfl, by kernel_rfl⟩   -- sinnet/prog.thread
theorem res30 : Try.f30.results = List.toArray [ResultVar.tmp 2, ResultVar.tmp 3, ResultVar.tmp 4] := rfl
theorem known31 : Known Try.prog 31 := ⟨Try.f31, Try.func31, rfl, by kernel_rfl⟩   -- slices.IndexFunc[[]sinnet/api.Instr,sinnet/api.Instr]
theorem res31 : Try.f31.results = List.toArray [ResultVar.tmp 4] := rfl
end Go.Proofs.Ytkoechchjiddhaa
