/- Facts about the program's types. No condition. -/
import Derived.Test.YtchoomlibgefbaaDoorPlain
import Derived.KernelRfl
import Derived.Test.YtchoomlibgefbaaDoorProg
set_option linter.unusedVariables false
set_option linter.unusedSimpArgs false
set_option linter.unnecessarySimpa false
set_option linter.constructorNameAsVariable false
set_option maxRecDepth 100000
namespace Go.Abs
open Go
theorem sz3 : szOf Go.Proofs.Tryd.prog 3 = some 1 := by kernel_rfl
theorem ki3 : kinds Go.Proofs.Tryd.prog 12 3 = some [none] := by kernel_rfl
theorem ze3 : zeroOf Go.Proofs.Tryd.prog 3 = some [.v (vi 0)] := by kernel_rfl
theorem by3 : bytesOf Go.Proofs.Tryd.prog 3 = some 8 := by kernel_rfl
theorem ag3 : aggOf Go.Proofs.Tryd.prog 3 = some false := by kernel_rfl
theorem sz4 : szOf Go.Proofs.Tryd.prog 4 = some 1 := by kernel_rfl
theorem ki4 : kinds Go.Proofs.Tryd.prog 12 4 = some [none] := by kernel_rfl
theorem ze4 : zeroOf Go.Proofs.Tryd.prog 4 = some [.v (.bool false)] := by kernel_rfl
theorem by4 : bytesOf Go.Proofs.Tryd.prog 4 = some 1 := by kernel_rfl
theorem ag4 : aggOf Go.Proofs.Tryd.prog 4 = some false := by kernel_rfl
theorem un4 : Go.Proofs.Tryd.prog.underlying 4 = some .bool := by kernel_rfl
theorem sz22 : szOf Go.Proofs.Tryd.prog 22 = some 1 := by kernel_rfl
theorem ki22 : kinds Go.Proofs.Tryd.prog 12 22 = some [some 1] := by kernel_rfl
theorem ze22 : zeroOf Go.Proofs.Tryd.prog 22 = some [.s true 1 []] := by kernel_rfl
theorem by22 : bytesOf Go.Proofs.Tryd.prog 22 = some 24 := by kernel_rfl
theorem ag22 : aggOf Go.Proofs.Tryd.prog 22 = some false := by kernel_rfl
theorem el22 : elemOf Go.Proofs.Tryd.prog 22 = some 3 := by kernel_rfl
theorem un22 : Go.Proofs.Tryd.prog.underlying 22 = some (.slice 3) := by kernel_rfl
theorem sz62 : szOf Go.Proofs.Tryd.prog 62 = some 6 := by kernel_rfl
theorem ki62 : kinds Go.Proofs.Tryd.prog 12 62 = some [none, none, none, none, none, none] := by kernel_rfl
theorem ze62 : zeroOf Go.Proofs.Tryd.prog 62 = some [.v (vi 0), .v (vi 0), .v (vi 0), .v (vi 0), .v (vi 0), .v (vi 0)] := by kernel_rfl
theorem by62 : bytesOf Go.Proofs.Tryd.prog 62 = some 48 := by kernel_rfl
theorem ag62 : aggOf Go.Proofs.Tryd.prog 62 = some true := by kernel_rfl
theorem is62 : isStruct Go.Proofs.Tryd.prog 62 = true := by kernel_rfl
theorem fo62_0 : fieldOf Go.Proofs.Tryd.prog 62 0 = some (0, 1, false) := by kernel_rfl
theorem fo62_1 : fieldOf Go.Proofs.Tryd.prog 62 1 = some (1, 1, false) := by kernel_rfl
theorem fo62_2 : fieldOf Go.Proofs.Tryd.prog 62 2 = some (2, 1, false) := by kernel_rfl
theorem fo62_3 : fieldOf Go.Proofs.Tryd.prog 62 3 = some (3, 1, false) := by kernel_rfl
theorem fo62_4 : fieldOf Go.Proofs.Tryd.prog 62 4 = some (4, 1, false) := by kernel_rfl
theorem fo62_5 : fieldOf Go.Proofs.Tryd.prog 62 5 = some (5, 1, false) := by kernel_rfl
theorem gu62 : Go.Proofs.Tryd.prog.eqGuardType Go.Proofs.Tryd.prog.depth 62 = false := by kernel_rfl
theorem fe62 : flatEq Go.Proofs.Tryd.prog 12 62 = some [.i, .i, .i, .i, .i, .i] := by kernel_rfl
theorem sz64 : szOf Go.Proofs.Tryd.prog 64 = some 7 := by kernel_rfl
theorem ki64 : kinds Go.Proofs.Tryd.prog 12 64 = some [none, none, none, none, none, none, none] := by kernel_rfl
theorem ze64 : zeroOf Go.Proofs.Tryd.prog 64 = some [.v (vi 0), .v (vi 0), .v (vi 0), .v (vi 0), .v (vi 0), .v (vi 0), .v (vi 0)] := by kernel_rfl
theorem by64 : bytesOf Go.Proofs.Tryd.prog 64 = some 56 := by kernel_rfl
theorem ag64 : aggOf Go.Proofs.Tryd.prog 64 = some true := by kernel_rfl
theorem is64 : isStruct Go.Proofs.Tryd.prog 64 = true := by kernel_rfl
theorem fo64_0 : fieldOf Go.Proofs.Tryd.prog 64 0 = some (0, 1, false) := by kernel_rfl
theorem fo64_1 : fieldOf Go.Proofs.Tryd.prog 64 1 = some (1, 6, true) := by kernel_rfl
theorem gu64 : Go.Proofs.Tryd.prog.eqGuardType Go.Proofs.Tryd.prog.depth 64 = false := by kernel_rfl
theorem fe64 : flatEq Go.Proofs.Tryd.prog 12 64 = some [.i, .i, .i, .i, .i, .i, .i] := by kernel_rfl
theorem sz31 : szOf Go.Proofs.Tryd.prog 31 = some 1 := by kernel_rfl
theorem ki31 : kinds Go.Proofs.Tryd.prog 12 31 = some [some 7] := by kernel_rfl
theorem ze31 : zeroOf Go.Proofs.Tryd.prog 31 = some [.s true 7 []] := by kernel_rfl
theorem by31 : bytesOf Go.Proofs.Tryd.prog 31 = some 24 := by kernel_rfl
theorem ag31 : aggOf Go.Proofs.Tryd.prog 31 = some false := by kernel_rfl
theorem el31 : elemOf Go.Proofs.Tryd.prog 31 = some 64 := by kernel_rfl
theorem un31 : Go.Proofs.Tryd.prog.underlying 31 = some (.slice 64) := by kernel_rfl
theorem un105 : Go.Proofs.Tryd.prog.underlying 105 = some (.int .u64) := by kernel_rfl
theorem un93 : Go.Proofs.Tryd.prog.underlying 93 = some (.int .u64) := by kernel_rfl
theorem ki105 : kinds Go.Proofs.Tryd.prog 12 105 = some [none] := by kernel_rfl
theorem ki93 : kinds Go.Proofs.Tryd.prog 12 93 = some [none] := by kernel_rfl
theorem un3 : Go.Proofs.Tryd.prog.underlying 3 = some (.int .i64) := by kernel_rfl
theorem el3n : elemOf Go.Proofs.Tryd.prog 3 = none := by kernel_rfl
theorem sz66 : szOf Go.Proofs.Tryd.prog 66 = some 6 := by kernel_rfl
theorem ki66 : kinds Go.Proofs.Tryd.prog 12 66 = some [none, none, none, none, none, none] := by kernel_rfl
theorem ze66 : zeroOf Go.Proofs.Tryd.prog 66 = some [.v (vi 0), .v (vi 0), .v (vi 0), .v (vi 0), .v (vi 0), .v (vi 0)] := by kernel_rfl
theorem by66 : bytesOf Go.Proofs.Tryd.prog 66 = some 48 := by kernel_rfl
theorem ag66 : aggOf Go.Proofs.Tryd.prog 66 = some true := by kernel_rfl
theorem is66 : isStruct Go.Proofs.Tryd.prog 66 = true := by kernel_rfl
theorem fo66_0 : fieldOf Go.Proofs.Tryd.prog 66 0 = some (0, 1, false) := by kernel_rfl
theorem fo66_1 : fieldOf Go.Proofs.Tryd.prog 66 1 = some (1, 1, false) := by kernel_rfl
theorem fo66_2 : fieldOf Go.Proofs.Tryd.prog 66 2 = some (2, 1, false) := by kernel_rfl
theorem fo66_3 : fieldOf Go.Proofs.Tryd.prog 66 3 = some (3, 1, false) := by kernel_rfl
theorem fo66_4 : fieldOf Go.Proofs.Tryd.prog 66 4 = some (4, 1, false) := by kernel_rfl
theorem fo66_5 : fieldOf Go.Proofs.Tryd.prog 66 5 = some (5, 1, false) := by kernel_rfl
theorem gu66 : Go.Proofs.Tryd.prog.eqGuardType Go.Proofs.Tryd.prog.depth 66 = false := by kernel_rfl
theorem fe66 : flatEq Go.Proofs.Tryd.prog 12 66 = some [.i, .i, .i, .i, .i, .i] := by kernel_rfl
theorem sz38 : szOf Go.Proofs.Tryd.prog 38 = some 2 := by kernel_rfl
theorem ki38 : kinds Go.Proofs.Tryd.prog 12 38 = some [none, none] := by kernel_rfl
theorem ze38 : zeroOf Go.Proofs.Tryd.prog 38 = some [.v (.bool false), .v (vi 0)] := by kernel_rfl
theorem by38 : bytesOf Go.Proofs.Tryd.prog 38 = some 16 := by kernel_rfl
theorem ag38 : aggOf Go.Proofs.Tryd.prog 38 = some true := by kernel_rfl
theorem is38 : isStruct Go.Proofs.Tryd.prog 38 = true := by kernel_rfl
theorem fo38_0 : fieldOf Go.Proofs.Tryd.prog 38 0 = some (0, 1, false) := by kernel_rfl
theorem fo38_1 : fieldOf Go.Proofs.Tryd.prog 38 1 = some (1, 1, false) := by kernel_rfl
theorem gu38 : Go.Proofs.Tryd.prog.eqGuardType Go.Proofs.Tryd.prog.depth 38 = false := by kernel_rfl
theorem fe38 : flatEq Go.Proofs.Tryd.prog 12 38 = some [.b, .i] := by kernel_rfl
theorem sz42 : szOf Go.Proofs.Tryd.prog 42 = some 2 := by kernel_rfl
theorem ki42 : kinds Go.Proofs.Tryd.prog 12 42 = some [none, none] := by kernel_rfl
theorem ze42 : zeroOf Go.Proofs.Tryd.prog 42 = some [.v (.bool false), .v (vi 0)] := by kernel_rfl
theorem by42 : bytesOf Go.Proofs.Tryd.prog 42 = some 16 := by kernel_rfl
theorem ag42 : aggOf Go.Proofs.Tryd.prog 42 = some true := by kernel_rfl
theorem is42 : isStruct Go.Proofs.Tryd.prog 42 = true := by kernel_rfl
theorem fo42_0 : fieldOf Go.Proofs.Tryd.prog 42 0 = some (0, 1, false) := by kernel_rfl
theorem fo42_1 : fieldOf Go.Proofs.Tryd.prog 42 1 = some (1, 1, false) := by kernel_rfl
theorem gu42 : Go.Proofs.Tryd.prog.eqGuardType Go.Proofs.Tryd.prog.depth 42 = false := by kernel_rfl
theorem fe42 : flatEq Go.Proofs.Tryd.prog 12 42 = some [.b, .i] := by kernel_rfl
theorem sz68 : szOf Go.Proofs.Tryd.prog 68 = some 7 := by kernel_rfl
theorem ki68 : kinds Go.Proofs.Tryd.prog 12 68 = some [none, none, none, none, none, none, none] := by kernel_rfl
theorem ze68 : zeroOf Go.Proofs.Tryd.prog 68 = some [.v (vi 0), .v (vi 0), .v (vi 0), .v (vi 0), .v (vi 0), .v (vi 0), .v (vi 0)] := by kernel_rfl
theorem by68 : bytesOf Go.Proofs.Tryd.prog 68 = some 56 := by kernel_rfl
theorem ag68 : aggOf Go.Proofs.Tryd.prog 68 = some true := by kernel_rfl
theorem is68 : isStruct Go.Proofs.Tryd.prog 68 = true := by kernel_rfl
theorem fo68_0 : fieldOf Go.Proofs.Tryd.prog 68 0 = some (0, 1, false) := by kernel_rfl
theorem fo68_1 : fieldOf Go.Proofs.Tryd.prog 68 1 = some (1, 6, true) := by kernel_rfl
theorem gu68 : Go.Proofs.Tryd.prog.eqGuardType Go.Proofs.Tryd.prog.depth 68 = false := by kernel_rfl
theorem fe68 : flatEq Go.Proofs.Tryd.prog 12 68 = some [.i, .i, .i, .i, .i, .i, .i] := by kernel_rfl
theorem sz25 : szOf Go.Proofs.Tryd.prog 25 = some 1 := by kernel_rfl
theorem ki25 : kinds Go.Proofs.Tryd.prog 12 25 = some [some 7] := by kernel_rfl
theorem ze25 : zeroOf Go.Proofs.Tryd.prog 25 = some [.s true 7 []] := by kernel_rfl
theorem by25 : bytesOf Go.Proofs.Tryd.prog 25 = some 24 := by kernel_rfl
theorem ag25 : aggOf Go.Proofs.Tryd.prog 25 = some false := by kernel_rfl
theorem el25 : elemOf Go.Proofs.Tryd.prog 25 = some 68 := by kernel_rfl
theorem un25 : Go.Proofs.Tryd.prog.underlying 25 = some (.slice 68) := by kernel_rfl
theorem sz24 : szOf Go.Proofs.Tryd.prog 24 = some 4 := by kernel_rfl
theorem ki24 : kinds Go.Proofs.Tryd.prog 12 24 = some [none, none, some 1, some 1] := by kernel_rfl
theorem ze24 : zeroOf Go.Proofs.Tryd.prog 24 = some [.v (vi 0), .v (vi 0), .s true 1 [], .s true 1 []] := by kernel_rfl
theorem by24 : bytesOf Go.Proofs.Tryd.prog 24 = some 64 := by kernel_rfl
theorem ag24 : aggOf Go.Proofs.Tryd.prog 24 = some true := by kernel_rfl
theorem is24 : isStruct Go.Proofs.Tryd.prog 24 = true := by kernel_rfl
theorem fo24_0 : fieldOf Go.Proofs.Tryd.prog 24 0 = some (0, 1, false) := by kernel_rfl
theorem fo24_1 : fieldOf Go.Proofs.Tryd.prog 24 1 = some (1, 1, false) := by kernel_rfl
theorem fo24_2 : fieldOf Go.Proofs.Tryd.prog 24 2 = some (2, 1, false) := by kernel_rfl
theorem fo24_3 : fieldOf Go.Proofs.Tryd.prog 24 3 = some (3, 1, false) := by kernel_rfl
theorem sz30 : szOf Go.Proofs.Tryd.prog 30 = some 4 := by kernel_rfl
theorem ki30 : kinds Go.Proofs.Tryd.prog 12 30 = some [none, none, some 1, some 1] := by kernel_rfl
theorem ze30 : zeroOf Go.Proofs.Tryd.prog 30 = some [.v (vi 0), .v (vi 0), .s true 1 [], .s true 1 []] := by kernel_rfl
theorem by30 : bytesOf Go.Proofs.Tryd.prog 30 = some 64 := by kernel_rfl
theorem ag30 : aggOf Go.Proofs.Tryd.prog 30 = some true := by kernel_rfl
theorem is30 : isStruct Go.Proofs.Tryd.prog 30 = true := by kernel_rfl
theorem fo30_0 : fieldOf Go.Proofs.Tryd.prog 30 0 = some (0, 1, false) := by kernel_rfl
theorem fo30_1 : fieldOf Go.Proofs.Tryd.prog 30 1 = some (1, 1, false) := by kernel_rfl
theorem fo30_2 : fieldOf Go.Proofs.Tryd.prog 30 2 = some (2, 1, false) := by kernel_rfl
theorem fo30_3 : fieldOf Go.Proofs.Tryd.prog 30 3 = some (3, 1, false) := by kernel_rfl
theorem sz33 : szOf Go.Proofs.Tryd.prog 33 = some 12 := by kernel_rfl
theorem ki33 : kinds Go.Proofs.Tryd.prog 12 33 = some [none, none, none, none, none, none, some 1, some 1, none, some 7, none, some 7] := by kernel_rfl
theorem ze33 : zeroOf Go.Proofs.Tryd.prog 33 = some [.v (.bool false), .v (.bool false), .v (vi 0), .v (vi 0), .v (vi 0), .v (vi 0), .s true 1 [], .s true 1 [], .v (vi 0), .s true 7 [], .v (vi 0), .s true 7 []] := by kernel_rfl
theorem by33 : bytesOf Go.Proofs.Tryd.prog 33 = some 152 := by kernel_rfl
theorem ag33 : aggOf Go.Proofs.Tryd.prog 33 = some true := by kernel_rfl
theorem is33 : isStruct Go.Proofs.Tryd.prog 33 = true := by kernel_rfl
theorem fo33_0 : fieldOf Go.Proofs.Tryd.prog 33 0 = some (0, 1, false) := by kernel_rfl
theorem fo33_1 : fieldOf Go.Proofs.Tryd.prog 33 1 = some (1, 1, false) := by kernel_rfl
theorem fo33_2 : fieldOf Go.Proofs.Tryd.prog 33 2 = some (2, 1, false) := by kernel_rfl
theorem fo33_3 : fieldOf Go.Proofs.Tryd.prog 33 3 = some (3, 1, false) := by kernel_rfl
theorem fo33_4 : fieldOf Go.Proofs.Tryd.prog 33 4 = some (4, 4, true) := by kernel_rfl
theorem fo33_5 : fieldOf Go.Proofs.Tryd.prog 33 5 = some (8, 1, false) := by kernel_rfl
theorem fo33_6 : fieldOf Go.Proofs.Tryd.prog 33 6 = some (9, 1, false) := by kernel_rfl
theorem fo33_7 : fieldOf Go.Proofs.Tryd.prog 33 7 = some (10, 1, false) := by kernel_rfl
theorem fo33_8 : fieldOf Go.Proofs.Tryd.prog 33 8 = some (11, 1, false) := by kernel_rfl
theorem sz27 : szOf Go.Proofs.Tryd.prog 27 = some 12 := by kernel_rfl
theorem ki27 : kinds Go.Proofs.Tryd.prog 12 27 = some [none, none, none, none, none, none, some 1, some 1, none, some 7, none, some 7] := by kernel_rfl
theorem ze27 : zeroOf Go.Proofs.Tryd.prog 27 = some [.v (.bool false), .v (.bool false), .v (vi 0), .v (vi 0), .v (vi 0), .v (vi 0), .s true 1 [], .s true 1 [], .v (vi 0), .s true 7 [], .v (vi 0), .s true 7 []] := by kernel_rfl
theorem by27 : bytesOf Go.Proofs.Tryd.prog 27 = some 152 := by kernel_rfl
theorem ag27 : aggOf Go.Proofs.Tryd.prog 27 = some true := by kernel_rfl
theorem is27 : isStruct Go.Proofs.Tryd.prog 27 = true := by kernel_rfl
theorem fo27_0 : fieldOf Go.Proofs.Tryd.prog 27 0 = some (0, 1, false) := by kernel_rfl
theorem fo27_1 : fieldOf Go.Proofs.Tryd.prog 27 1 = some (1, 1, false) := by kernel_rfl
theorem fo27_2 : fieldOf Go.Proofs.Tryd.prog 27 2 = some (2, 1, false) := by kernel_rfl
theorem fo27_3 : fieldOf Go.Proofs.Tryd.prog 27 3 = some (3, 1, false) := by kernel_rfl
theorem fo27_4 : fieldOf Go.Proofs.Tryd.prog 27 4 = some (4, 4, true) := by kernel_rfl
theorem fo27_5 : fieldOf Go.Proofs.Tryd.prog 27 5 = some (8, 1, false) := by kernel_rfl
theorem fo27_6 : fieldOf Go.Proofs.Tryd.prog 27 6 = some (9, 1, false) := by kernel_rfl
theorem fo27_7 : fieldOf Go.Proofs.Tryd.prog 27 7 = some (10, 1, false) := by kernel_rfl
theorem fo27_8 : fieldOf Go.Proofs.Tryd.prog 27 8 = some (11, 1, false) := by kernel_rfl
theorem un9 : Go.Proofs.Tryd.prog.underlying 9 = some .string := by kernel_rfl
theorem eln9 : elemOf Go.Proofs.Tryd.prog 9 = none := by kernel_rfl
theorem un5 : Go.Proofs.Tryd.prog.underlying 5 = some (.int .u8) := by kernel_rfl
theorem un72 : Go.Proofs.Tryd.prog.underlying 72 = some (.slice 5) := by kernel_rfl
theorem el72 : elemOf Go.Proofs.Tryd.prog 72 = some 5 := by kernel_rfl
theorem ki5 : kinds Go.Proofs.Tryd.prog 12 5 = some [none] := by kernel_rfl
theorem sz5 : szOf Go.Proofs.Tryd.prog 5 = some 1 := by kernel_rfl
theorem ze5 : zeroOf Go.Proofs.Tryd.prog 5 = some [.v (.int .u8 0)] := by kernel_rfl
theorem ki9 : kinds Go.Proofs.Tryd.prog 12 9 = some [none] := by kernel_rfl
theorem sz9 : szOf Go.Proofs.Tryd.prog 9 = some 1 := by kernel_rfl
theorem ze9 : zeroOf Go.Proofs.Tryd.prog 9 = some [.v (.string ⟨#[]⟩)] := by kernel_rfl
theorem by9 : bytesOf Go.Proofs.Tryd.prog 9 = some 16 := by kernel_rfl
theorem ag9 : aggOf Go.Proofs.Tryd.prog 9 = some false := by kernel_rfl
theorem el71 : elemOf Go.Proofs.Tryd.prog 71 = some 9 := by kernel_rfl
theorem by71 : bytesOf Go.Proofs.Tryd.prog 71 = some 24 := by kernel_rfl
theorem sz2 : szOf Go.Proofs.Tryd.prog 2 = some 1 := by kernel_rfl
theorem ki2 : kinds Go.Proofs.Tryd.prog 12 2 = some [none] := by kernel_rfl
theorem ze2 : zeroOf Go.Proofs.Tryd.prog 2 = some [.v (vi 0)] := by kernel_rfl
theorem by2 : bytesOf Go.Proofs.Tryd.prog 2 = some 8 := by kernel_rfl
theorem ag2 : aggOf Go.Proofs.Tryd.prog 2 = some false := by kernel_rfl
theorem sz71 : szOf Go.Proofs.Tryd.prog 71 = some 1 := by kernel_rfl
theorem ki71 : kinds Go.Proofs.Tryd.prog 12 71 = some [some 1] := by kernel_rfl
theorem ze71 : zeroOf Go.Proofs.Tryd.prog 71 = some [.s true 1 []] := by kernel_rfl
theorem ag71 : aggOf Go.Proofs.Tryd.prog 71 = some false := by kernel_rfl
theorem un71 : Go.Proofs.Tryd.prog.underlying 71 = some (.slice 9) := by kernel_rfl
theorem sz44 : szOf Go.Proofs.Tryd.prog 44 = some 4 := by kernel_rfl
theorem ki44 : kinds Go.Proofs.Tryd.prog 12 44 = some [none, none, none, none] := by kernel_rfl
theorem ze44 : zeroOf Go.Proofs.Tryd.prog 44 = some [.v (vi 0), .v (.bool false), .v (vi 0), .v (vi 0)] := by kernel_rfl
theorem by44 : bytesOf Go.Proofs.Tryd.prog 44 = some 32 := by kernel_rfl
theorem ag44 : aggOf Go.Proofs.Tryd.prog 44 = some true := by kernel_rfl
theorem is44 : isStruct Go.Proofs.Tryd.prog 44 = true := by kernel_rfl
theorem fo44_0 : fieldOf Go.Proofs.Tryd.prog 44 0 = some (0, 1, false) := by kernel_rfl
theorem fo44_1 : fieldOf Go.Proofs.Tryd.prog 44 1 = some (1, 2, true) := by kernel_rfl
theorem fo44_2 : fieldOf Go.Proofs.Tryd.prog 44 2 = some (3, 1, false) := by kernel_rfl
theorem gu44 : Go.Proofs.Tryd.prog.eqGuardType Go.Proofs.Tryd.prog.depth 44 = false := by kernel_rfl
theorem fe44 : flatEq Go.Proofs.Tryd.prog 12 44 = some [.i, .b, .i, .i] := by kernel_rfl
theorem sz40 : szOf Go.Proofs.Tryd.prog 40 = some 4 := by kernel_rfl
theorem ki40 : kinds Go.Proofs.Tryd.prog 12 40 = some [none, none, none, none] := by kernel_rfl
theorem ze40 : zeroOf Go.Proofs.Tryd.prog 40 = some [.v (vi 0), .v (.bool false), .v (vi 0), .v (vi 0)] := by kernel_rfl
theorem by40 : bytesOf Go.Proofs.Tryd.prog 40 = some 32 := by kernel_rfl
theorem ag40 : aggOf Go.Proofs.Tryd.prog 40 = some true := by kernel_rfl
theorem is40 : isStruct Go.Proofs.Tryd.prog 40 = true := by kernel_rfl
theorem fo40_0 : fieldOf Go.Proofs.Tryd.prog 40 0 = some (0, 1, false) := by kernel_rfl
theorem fo40_1 : fieldOf Go.Proofs.Tryd.prog 40 1 = some (1, 2, true) := by kernel_rfl
theorem fo40_2 : fieldOf Go.Proofs.Tryd.prog 40 2 = some (3, 1, false) := by kernel_rfl
theorem gu40 : Go.Proofs.Tryd.prog.eqGuardType Go.Proofs.Tryd.prog.depth 40 = false := by kernel_rfl
theorem fe40 : flatEq Go.Proofs.Tryd.prog 12 40 = some [.i, .b, .i, .i] := by kernel_rfl
attribute [go_sem] sz3 ki3 ze3 by3 ag3 sz4 ki4 ze4 by4 ag4 un4 sz22 ki22 ze22 by22 ag22 el22 un22 sz62 ki62 ze62 by62 ag62 is62 fo62_0 fo62_1 fo62_2 fo62_3 fo62_4 fo62_5 gu62 fe62 sz64 ki64 ze64 by64 ag64 is64 fo64_0 fo64_1 gu64 fe64 sz31 ki31 ze31 by31 ag31 el31 un31 un105 un93 ki105 ki93 un3 el3n sz66 ki66 ze66 by66 ag66 is66 fo66_0 fo66_1 fo66_2 fo66_3 fo66_4 fo66_5 gu66 fe66 sz38 ki38 ze38 by38 ag38 is38 fo38_0 fo38_1 gu38 fe38 sz42 ki42 ze42 by42 ag42 is42 fo42_0 fo42_1 gu42 fe42 sz68 ki68 ze68 by68 ag68 is68 fo68_0 fo68_1 gu68 fe68 sz25 ki25 ze25 by25 ag25 el25 un25 sz24 ki24 ze24 by24 ag24 is24 fo24_0 fo24_1 fo24_2 fo24_3 sz30 ki30 ze30 by30 ag30 is30 fo30_0 fo30_1 fo30_2 fo30_3 sz33 ki33 ze33 by33 ag33 is33 fo33_0 fo33_1 fo33_2 fo33_3 fo33_4 fo33_5 fo33_6 fo33_7 fo33_8 sz27 ki27 ze27 by27 ag27 is27 fo27_0 fo27_1 fo27_2 fo27_3 fo27_4 fo27_5 fo27_6 fo27_7 fo27_8 un9 eln9 un5 un72 el72 ki5 sz5 ze5 ki9 sz9 ze9 by9 ag9 el71 by71 sz2 ki2 ze2 by2 ag2 sz71 ki71 ze71 ag71 un71 sz44 ki44 ze44 by44 ag44 is44 fo44_0 fo44_1 fo44_2 gu44 fe44 sz40 ki40 ze40 by40 ag40 is40 fo40_0 fo40_1 fo40_2 gu40 fe40
end Go.Abs
