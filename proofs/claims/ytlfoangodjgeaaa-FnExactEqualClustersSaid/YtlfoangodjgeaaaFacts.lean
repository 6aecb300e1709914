/- Facts about the program's types. No condition. -/
import Derived.Test.YtlfoangodjgeaaaPlain
import Derived.KernelRfl
import Derived.Test.YtlfoangodjgeaaaProg
set_option linter.unusedVariables false
set_option linter.unusedSimpArgs false
set_option linter.unnecessarySimpa false
set_option linter.constructorNameAsVariable false
set_option maxRecDepth 100000
namespace Go.Abs
open Go
theorem sz3 : szOf Go.Proofs.Try.prog 3 = some 1 := by kernel_rfl
theorem ki3 : kinds Go.Proofs.Try.prog 12 3 = some [none] := by kernel_rfl
theorem ze3 : zeroOf Go.Proofs.Try.prog 3 = some [.v (vi 0)] := by kernel_rfl
theorem by3 : bytesOf Go.Proofs.Try.prog 3 = some 8 := by kernel_rfl
theorem ag3 : aggOf Go.Proofs.Try.prog 3 = some false := by kernel_rfl
theorem sz4 : szOf Go.Proofs.Try.prog 4 = some 1 := by kernel_rfl
theorem ki4 : kinds Go.Proofs.Try.prog 12 4 = some [none] := by kernel_rfl
theorem ze4 : zeroOf Go.Proofs.Try.prog 4 = some [.v (.bool false)] := by kernel_rfl
theorem by4 : bytesOf Go.Proofs.Try.prog 4 = some 1 := by kernel_rfl
theorem ag4 : aggOf Go.Proofs.Try.prog 4 = some false := by kernel_rfl
theorem un4 : Go.Proofs.Try.prog.underlying 4 = some .bool := by kernel_rfl
theorem sz23 : szOf Go.Proofs.Try.prog 23 = some 1 := by kernel_rfl
theorem ki23 : kinds Go.Proofs.Try.prog 12 23 = some [some 1] := by kernel_rfl
theorem ze23 : zeroOf Go.Proofs.Try.prog 23 = some [.s true 1 []] := by kernel_rfl
theorem by23 : bytesOf Go.Proofs.Try.prog 23 = some 24 := by kernel_rfl
theorem ag23 : aggOf Go.Proofs.Try.prog 23 = some false := by kernel_rfl
theorem el23 : elemOf Go.Proofs.Try.prog 23 = some 3 := by kernel_rfl
theorem un23 : Go.Proofs.Try.prog.underlying 23 = some (.slice 3) := by kernel_rfl
theorem sz104 : szOf Go.Proofs.Try.prog 104 = some 6 := by kernel_rfl
theorem ki104 : kinds Go.Proofs.Try.prog 12 104 = some [none, none, none, none, none, none] := by kernel_rfl
theorem ze104 : zeroOf Go.Proofs.Try.prog 104 = some [.v (vi 0), .v (vi 0), .v (vi 0), .v (vi 0), .v (vi 0), .v (vi 0)] := by kernel_rfl
theorem by104 : bytesOf Go.Proofs.Try.prog 104 = some 48 := by kernel_rfl
theorem ag104 : aggOf Go.Proofs.Try.prog 104 = some true := by kernel_rfl
theorem is104 : isStruct Go.Proofs.Try.prog 104 = true := by kernel_rfl
theorem fo104_0 : fieldOf Go.Proofs.Try.prog 104 0 = some (0, 1, false) := by kernel_rfl
theorem fo104_1 : fieldOf Go.Proofs.Try.prog 104 1 = some (1, 1, false) := by kernel_rfl
theorem fo104_2 : fieldOf Go.Proofs.Try.prog 104 2 = some (2, 1, false) := by kernel_rfl
theorem fo104_3 : fieldOf Go.Proofs.Try.prog 104 3 = some (3, 1, false) := by kernel_rfl
theorem fo104_4 : fieldOf Go.Proofs.Try.prog 104 4 = some (4, 1, false) := by kernel_rfl
theorem fo104_5 : fieldOf Go.Proofs.Try.prog 104 5 = some (5, 1, false) := by kernel_rfl
theorem gu104 : Go.Proofs.Try.prog.eqGuardType Go.Proofs.Try.prog.depth 104 = false := by kernel_rfl
theorem fe104 : flatEq Go.Proofs.Try.prog 12 104 = some [.i, .i, .i, .i, .i, .i] := by kernel_rfl
theorem sz106 : szOf Go.Proofs.Try.prog 106 = some 7 := by kernel_rfl
theorem ki106 : kinds Go.Proofs.Try.prog 12 106 = some [none, none, none, none, none, none, none] := by kernel_rfl
theorem ze106 : zeroOf Go.Proofs.Try.prog 106 = some [.v (vi 0), .v (vi 0), .v (vi 0), .v (vi 0), .v (vi 0), .v (vi 0), .v (vi 0)] := by kernel_rfl
theorem by106 : bytesOf Go.Proofs.Try.prog 106 = some 56 := by kernel_rfl
theorem ag106 : aggOf Go.Proofs.Try.prog 106 = some true := by kernel_rfl
theorem is106 : isStruct Go.Proofs.Try.prog 106 = true := by kernel_rfl
theorem fo106_0 : fieldOf Go.Proofs.Try.prog 106 0 = some (0, 1, false) := by kernel_rfl
theorem fo106_1 : fieldOf Go.Proofs.Try.prog 106 1 = some (1, 6, true) := by kernel_rfl
theorem gu106 : Go.Proofs.Try.prog.eqGuardType Go.Proofs.Try.prog.depth 106 = false := by kernel_rfl
theorem fe106 : flatEq Go.Proofs.Try.prog 12 106 = some [.i, .i, .i, .i, .i, .i, .i] := by kernel_rfl
theorem sz60 : szOf Go.Proofs.Try.prog 60 = some 1 := by kernel_rfl
theorem ki60 : kinds Go.Proofs.Try.prog 12 60 = some [some 7] := by kernel_rfl
theorem ze60 : zeroOf Go.Proofs.Try.prog 60 = some [.s true 7 []] := by kernel_rfl
theorem by60 : bytesOf Go.Proofs.Try.prog 60 = some 24 := by kernel_rfl
theorem ag60 : aggOf Go.Proofs.Try.prog 60 = some false := by kernel_rfl
theorem el60 : elemOf Go.Proofs.Try.prog 60 = some 106 := by kernel_rfl
theorem un60 : Go.Proofs.Try.prog.underlying 60 = some (.slice 106) := by kernel_rfl
theorem sz59 : szOf Go.Proofs.Try.prog 59 = some 4 := by kernel_rfl
theorem ki59 : kinds Go.Proofs.Try.prog 12 59 = some [none, none, some 1, some 1] := by kernel_rfl
theorem ze59 : zeroOf Go.Proofs.Try.prog 59 = some [.v (vi 0), .v (vi 0), .s true 1 [], .s true 1 []] := by kernel_rfl
theorem by59 : bytesOf Go.Proofs.Try.prog 59 = some 64 := by kernel_rfl
theorem ag59 : aggOf Go.Proofs.Try.prog 59 = some true := by kernel_rfl
theorem is59 : isStruct Go.Proofs.Try.prog 59 = true := by kernel_rfl
theorem fo59_0 : fieldOf Go.Proofs.Try.prog 59 0 = some (0, 1, false) := by kernel_rfl
theorem fo59_1 : fieldOf Go.Proofs.Try.prog 59 1 = some (1, 1, false) := by kernel_rfl
theorem fo59_2 : fieldOf Go.Proofs.Try.prog 59 2 = some (2, 1, false) := by kernel_rfl
theorem fo59_3 : fieldOf Go.Proofs.Try.prog 59 3 = some (3, 1, false) := by kernel_rfl
theorem sz81 : szOf Go.Proofs.Try.prog 81 = some 3 := by kernel_rfl
theorem ki81 : kinds Go.Proofs.Try.prog 12 81 = some [none, none, none] := by kernel_rfl
theorem ze81 : zeroOf Go.Proofs.Try.prog 81 = some [.v (vi 0), .v (vi 0), .v (vi 0)] := by kernel_rfl
theorem by81 : bytesOf Go.Proofs.Try.prog 81 = some 24 := by kernel_rfl
theorem ag81 : aggOf Go.Proofs.Try.prog 81 = some true := by kernel_rfl
theorem is81 : isStruct Go.Proofs.Try.prog 81 = true := by kernel_rfl
theorem fo81_0 : fieldOf Go.Proofs.Try.prog 81 0 = some (0, 1, false) := by kernel_rfl
theorem fo81_1 : fieldOf Go.Proofs.Try.prog 81 1 = some (1, 1, false) := by kernel_rfl
theorem fo81_2 : fieldOf Go.Proofs.Try.prog 81 2 = some (2, 1, false) := by kernel_rfl
theorem gu81 : Go.Proofs.Try.prog.eqGuardType Go.Proofs.Try.prog.depth 81 = false := by kernel_rfl
theorem fe81 : flatEq Go.Proofs.Try.prog 12 81 = some [.i, .i, .i] := by kernel_rfl
theorem sz39 : szOf Go.Proofs.Try.prog 39 = some 1 := by kernel_rfl
theorem ki39 : kinds Go.Proofs.Try.prog 12 39 = some [some 3] := by kernel_rfl
theorem ze39 : zeroOf Go.Proofs.Try.prog 39 = some [.s true 3 []] := by kernel_rfl
theorem by39 : bytesOf Go.Proofs.Try.prog 39 = some 24 := by kernel_rfl
theorem ag39 : aggOf Go.Proofs.Try.prog 39 = some false := by kernel_rfl
theorem el39 : elemOf Go.Proofs.Try.prog 39 = some 81 := by kernel_rfl
theorem un39 : Go.Proofs.Try.prog.underlying 39 = some (.slice 81) := by kernel_rfl
theorem sz62 : szOf Go.Proofs.Try.prog 62 = some 12 := by kernel_rfl
theorem ki62 : kinds Go.Proofs.Try.prog 12 62 = some [none, none, none, none, none, none, some 1, some 1, none, some 7, none, some 7] := by kernel_rfl
theorem ze62 : zeroOf Go.Proofs.Try.prog 62 = some [.v (.bool false), .v (.bool false), .v (vi 0), .v (vi 0), .v (vi 0), .v (vi 0), .s true 1 [], .s true 1 [], .v (vi 0), .s true 7 [], .v (vi 0), .s true 7 []] := by kernel_rfl
theorem by62 : bytesOf Go.Proofs.Try.prog 62 = some 152 := by kernel_rfl
theorem ag62 : aggOf Go.Proofs.Try.prog 62 = some true := by kernel_rfl
theorem is62 : isStruct Go.Proofs.Try.prog 62 = true := by kernel_rfl
theorem fo62_0 : fieldOf Go.Proofs.Try.prog 62 0 = some (0, 1, false) := by kernel_rfl
theorem fo62_1 : fieldOf Go.Proofs.Try.prog 62 1 = some (1, 1, false) := by kernel_rfl
theorem fo62_2 : fieldOf Go.Proofs.Try.prog 62 2 = some (2, 1, false) := by kernel_rfl
theorem fo62_3 : fieldOf Go.Proofs.Try.prog 62 3 = some (3, 1, false) := by kernel_rfl
theorem fo62_4 : fieldOf Go.Proofs.Try.prog 62 4 = some (4, 4, true) := by kernel_rfl
theorem fo62_5 : fieldOf Go.Proofs.Try.prog 62 5 = some (8, 1, false) := by kernel_rfl
theorem fo62_6 : fieldOf Go.Proofs.Try.prog 62 6 = some (9, 1, false) := by kernel_rfl
theorem fo62_7 : fieldOf Go.Proofs.Try.prog 62 7 = some (10, 1, false) := by kernel_rfl
theorem fo62_8 : fieldOf Go.Proofs.Try.prog 62 8 = some (11, 1, false) := by kernel_rfl
theorem un140 : Go.Proofs.Try.prog.underlying 140 = some (.int .u64) := by kernel_rfl
theorem un153 : Go.Proofs.Try.prog.underlying 153 = some (.int .u64) := by kernel_rfl
theorem ki140 : kinds Go.Proofs.Try.prog 12 140 = some [none] := by kernel_rfl
theorem ki153 : kinds Go.Proofs.Try.prog 12 153 = some [none] := by kernel_rfl
theorem un3 : Go.Proofs.Try.prog.underlying 3 = some (.int .i64) := by kernel_rfl
theorem el3n : elemOf Go.Proofs.Try.prog 3 = none := by kernel_rfl
theorem sz108 : szOf Go.Proofs.Try.prog 108 = some 6 := by kernel_rfl
theorem ki108 : kinds Go.Proofs.Try.prog 12 108 = some [none, none, none, none, none, none] := by kernel_rfl
theorem ze108 : zeroOf Go.Proofs.Try.prog 108 = some [.v (vi 0), .v (vi 0), .v (vi 0), .v (vi 0), .v (vi 0), .v (vi 0)] := by kernel_rfl
theorem by108 : bytesOf Go.Proofs.Try.prog 108 = some 48 := by kernel_rfl
theorem ag108 : aggOf Go.Proofs.Try.prog 108 = some true := by kernel_rfl
theorem is108 : isStruct Go.Proofs.Try.prog 108 = true := by kernel_rfl
theorem fo108_0 : fieldOf Go.Proofs.Try.prog 108 0 = some (0, 1, false) := by kernel_rfl
theorem fo108_1 : fieldOf Go.Proofs.Try.prog 108 1 = some (1, 1, false) := by kernel_rfl
theorem fo108_2 : fieldOf Go.Proofs.Try.prog 108 2 = some (2, 1, false) := by kernel_rfl
theorem fo108_3 : fieldOf Go.Proofs.Try.prog 108 3 = some (3, 1, false) := by kernel_rfl
theorem fo108_4 : fieldOf Go.Proofs.Try.prog 108 4 = some (4, 1, false) := by kernel_rfl
theorem fo108_5 : fieldOf Go.Proofs.Try.prog 108 5 = some (5, 1, false) := by kernel_rfl
theorem gu108 : Go.Proofs.Try.prog.eqGuardType Go.Proofs.Try.prog.depth 108 = false := by kernel_rfl
theorem fe108 : flatEq Go.Proofs.Try.prog 12 108 = some [.i, .i, .i, .i, .i, .i] := by kernel_rfl
theorem sz110 : szOf Go.Proofs.Try.prog 110 = some 7 := by kernel_rfl
theorem ki110 : kinds Go.Proofs.Try.prog 12 110 = some [none, none, none, none, none, none, none] := by kernel_rfl
theorem ze110 : zeroOf Go.Proofs.Try.prog 110 = some [.v (vi 0), .v (vi 0), .v (vi 0), .v (vi 0), .v (vi 0), .v (vi 0), .v (vi 0)] := by kernel_rfl
theorem by110 : bytesOf Go.Proofs.Try.prog 110 = some 56 := by kernel_rfl
theorem ag110 : aggOf Go.Proofs.Try.prog 110 = some true := by kernel_rfl
theorem is110 : isStruct Go.Proofs.Try.prog 110 = true := by kernel_rfl
theorem fo110_0 : fieldOf Go.Proofs.Try.prog 110 0 = some (0, 1, false) := by kernel_rfl
theorem fo110_1 : fieldOf Go.Proofs.Try.prog 110 1 = some (1, 6, true) := by kernel_rfl
theorem gu110 : Go.Proofs.Try.prog.eqGuardType Go.Proofs.Try.prog.depth 110 = false := by kernel_rfl
theorem fe110 : flatEq Go.Proofs.Try.prog 12 110 = some [.i, .i, .i, .i, .i, .i, .i] := by kernel_rfl
theorem sz92 : szOf Go.Proofs.Try.prog 92 = some 3 := by kernel_rfl
theorem ki92 : kinds Go.Proofs.Try.prog 12 92 = some [none, none, none] := by kernel_rfl
theorem ze92 : zeroOf Go.Proofs.Try.prog 92 = some [.v (vi 0), .v (vi 0), .v (vi 0)] := by kernel_rfl
theorem by92 : bytesOf Go.Proofs.Try.prog 92 = some 24 := by kernel_rfl
theorem ag92 : aggOf Go.Proofs.Try.prog 92 = some true := by kernel_rfl
theorem is92 : isStruct Go.Proofs.Try.prog 92 = true := by kernel_rfl
theorem fo92_0 : fieldOf Go.Proofs.Try.prog 92 0 = some (0, 1, false) := by kernel_rfl
theorem fo92_1 : fieldOf Go.Proofs.Try.prog 92 1 = some (1, 1, false) := by kernel_rfl
theorem fo92_2 : fieldOf Go.Proofs.Try.prog 92 2 = some (2, 1, false) := by kernel_rfl
theorem gu92 : Go.Proofs.Try.prog.eqGuardType Go.Proofs.Try.prog.depth 92 = false := by kernel_rfl
theorem fe92 : flatEq Go.Proofs.Try.prog 12 92 = some [.i, .i, .i] := by kernel_rfl
theorem sz38 : szOf Go.Proofs.Try.prog 38 = some 3 := by kernel_rfl
theorem ki38 : kinds Go.Proofs.Try.prog 12 38 = some [none, none, none] := by kernel_rfl
theorem ze38 : zeroOf Go.Proofs.Try.prog 38 = some [.v (vi 0), .v (vi 0), .v (vi 0)] := by kernel_rfl
theorem by38 : bytesOf Go.Proofs.Try.prog 38 = some 24 := by kernel_rfl
theorem ag38 : aggOf Go.Proofs.Try.prog 38 = some true := by kernel_rfl
theorem is38 : isStruct Go.Proofs.Try.prog 38 = true := by kernel_rfl
theorem fo38_0 : fieldOf Go.Proofs.Try.prog 38 0 = some (0, 1, false) := by kernel_rfl
theorem fo38_1 : fieldOf Go.Proofs.Try.prog 38 1 = some (1, 1, false) := by kernel_rfl
theorem fo38_2 : fieldOf Go.Proofs.Try.prog 38 2 = some (2, 1, false) := by kernel_rfl
theorem gu38 : Go.Proofs.Try.prog.eqGuardType Go.Proofs.Try.prog.depth 38 = false := by kernel_rfl
theorem fe38 : flatEq Go.Proofs.Try.prog 12 38 = some [.i, .i, .i] := by kernel_rfl
theorem sz28 : szOf Go.Proofs.Try.prog 28 = some 3 := by kernel_rfl
theorem ki28 : kinds Go.Proofs.Try.prog 12 28 = some [none, none, none] := by kernel_rfl
theorem ze28 : zeroOf Go.Proofs.Try.prog 28 = some [.v (vi 0), .v (vi 0), .v (vi 0)] := by kernel_rfl
theorem by28 : bytesOf Go.Proofs.Try.prog 28 = some 24 := by kernel_rfl
theorem ag28 : aggOf Go.Proofs.Try.prog 28 = some true := by kernel_rfl
theorem is28 : isStruct Go.Proofs.Try.prog 28 = true := by kernel_rfl
theorem fo28_0 : fieldOf Go.Proofs.Try.prog 28 0 = some (0, 1, false) := by kernel_rfl
theorem fo28_1 : fieldOf Go.Proofs.Try.prog 28 1 = some (1, 1, false) := by kernel_rfl
theorem fo28_2 : fieldOf Go.Proofs.Try.prog 28 2 = some (2, 1, false) := by kernel_rfl
theorem gu28 : Go.Proofs.Try.prog.eqGuardType Go.Proofs.Try.prog.depth 28 = false := by kernel_rfl
theorem fe28 : flatEq Go.Proofs.Try.prog 12 28 = some [.i, .i, .i] := by kernel_rfl
theorem sz53 : szOf Go.Proofs.Try.prog 53 = some 1 := by kernel_rfl
theorem ki53 : kinds Go.Proofs.Try.prog 12 53 = some [some 7] := by kernel_rfl
theorem ze53 : zeroOf Go.Proofs.Try.prog 53 = some [.s true 7 []] := by kernel_rfl
theorem by53 : bytesOf Go.Proofs.Try.prog 53 = some 24 := by kernel_rfl
theorem ag53 : aggOf Go.Proofs.Try.prog 53 = some false := by kernel_rfl
theorem el53 : elemOf Go.Proofs.Try.prog 53 = some 110 := by kernel_rfl
theorem un53 : Go.Proofs.Try.prog.underlying 53 = some (.slice 110) := by kernel_rfl
theorem sz29 : szOf Go.Proofs.Try.prog 29 = some 1 := by kernel_rfl
theorem ki29 : kinds Go.Proofs.Try.prog 12 29 = some [some 3] := by kernel_rfl
theorem ze29 : zeroOf Go.Proofs.Try.prog 29 = some [.s true 3 []] := by kernel_rfl
theorem by29 : bytesOf Go.Proofs.Try.prog 29 = some 24 := by kernel_rfl
theorem ag29 : aggOf Go.Proofs.Try.prog 29 = some false := by kernel_rfl
theorem el29 : elemOf Go.Proofs.Try.prog 29 = some 92 := by kernel_rfl
theorem un29 : Go.Proofs.Try.prog.underlying 29 = some (.slice 92) := by kernel_rfl
theorem sz52 : szOf Go.Proofs.Try.prog 52 = some 4 := by kernel_rfl
theorem ki52 : kinds Go.Proofs.Try.prog 12 52 = some [none, none, some 1, some 1] := by kernel_rfl
theorem ze52 : zeroOf Go.Proofs.Try.prog 52 = some [.v (vi 0), .v (vi 0), .s true 1 [], .s true 1 []] := by kernel_rfl
theorem by52 : bytesOf Go.Proofs.Try.prog 52 = some 64 := by kernel_rfl
theorem ag52 : aggOf Go.Proofs.Try.prog 52 = some true := by kernel_rfl
theorem is52 : isStruct Go.Proofs.Try.prog 52 = true := by kernel_rfl
theorem fo52_0 : fieldOf Go.Proofs.Try.prog 52 0 = some (0, 1, false) := by kernel_rfl
theorem fo52_1 : fieldOf Go.Proofs.Try.prog 52 1 = some (1, 1, false) := by kernel_rfl
theorem fo52_2 : fieldOf Go.Proofs.Try.prog 52 2 = some (2, 1, false) := by kernel_rfl
theorem fo52_3 : fieldOf Go.Proofs.Try.prog 52 3 = some (3, 1, false) := by kernel_rfl
theorem sz35 : szOf Go.Proofs.Try.prog 35 = some 1 := by kernel_rfl
theorem ki35 : kinds Go.Proofs.Try.prog 12 35 = some [some 4] := by kernel_rfl
theorem ze35 : zeroOf Go.Proofs.Try.prog 35 = some [.s true 4 []] := by kernel_rfl
theorem by35 : bytesOf Go.Proofs.Try.prog 35 = some 24 := by kernel_rfl
theorem ag35 : aggOf Go.Proofs.Try.prog 35 = some false := by kernel_rfl
theorem el35 : elemOf Go.Proofs.Try.prog 35 = some 59 := by kernel_rfl
theorem un35 : Go.Proofs.Try.prog.underlying 35 = some (.slice 59) := by kernel_rfl
theorem sz24 : szOf Go.Proofs.Try.prog 24 = some 1 := by kernel_rfl
theorem ki24 : kinds Go.Proofs.Try.prog 12 24 = some [some 4] := by kernel_rfl
theorem ze24 : zeroOf Go.Proofs.Try.prog 24 = some [.s true 4 []] := by kernel_rfl
theorem by24 : bytesOf Go.Proofs.Try.prog 24 = some 24 := by kernel_rfl
theorem ag24 : aggOf Go.Proofs.Try.prog 24 = some false := by kernel_rfl
theorem el24 : elemOf Go.Proofs.Try.prog 24 = some 52 := by kernel_rfl
theorem un24 : Go.Proofs.Try.prog.underlying 24 = some (.slice 52) := by kernel_rfl
theorem sz37 : szOf Go.Proofs.Try.prog 37 = some 2 := by kernel_rfl
theorem ki37 : kinds Go.Proofs.Try.prog 12 37 = some [some 4, none] := by kernel_rfl
theorem ze37 : zeroOf Go.Proofs.Try.prog 37 = some [.s true 4 [], .v (vi 0)] := by kernel_rfl
theorem by37 : bytesOf Go.Proofs.Try.prog 37 = some 32 := by kernel_rfl
theorem ag37 : aggOf Go.Proofs.Try.prog 37 = some true := by kernel_rfl
theorem is37 : isStruct Go.Proofs.Try.prog 37 = true := by kernel_rfl
theorem fo37_0 : fieldOf Go.Proofs.Try.prog 37 0 = some (0, 1, false) := by kernel_rfl
theorem fo37_1 : fieldOf Go.Proofs.Try.prog 37 1 = some (1, 1, false) := by kernel_rfl
theorem sz26 : szOf Go.Proofs.Try.prog 26 = some 2 := by kernel_rfl
theorem ki26 : kinds Go.Proofs.Try.prog 12 26 = some [some 4, none] := by kernel_rfl
theorem ze26 : zeroOf Go.Proofs.Try.prog 26 = some [.s true 4 [], .v (vi 0)] := by kernel_rfl
theorem by26 : bytesOf Go.Proofs.Try.prog 26 = some 32 := by kernel_rfl
theorem ag26 : aggOf Go.Proofs.Try.prog 26 = some true := by kernel_rfl
theorem is26 : isStruct Go.Proofs.Try.prog 26 = true := by kernel_rfl
theorem fo26_0 : fieldOf Go.Proofs.Try.prog 26 0 = some (0, 1, false) := by kernel_rfl
theorem fo26_1 : fieldOf Go.Proofs.Try.prog 26 1 = some (1, 1, false) := by kernel_rfl
theorem sz55 : szOf Go.Proofs.Try.prog 55 = some 12 := by kernel_rfl
theorem ki55 : kinds Go.Proofs.Try.prog 12 55 = some [none, none, none, none, none, none, some 1, some 1, none, some 7, none, some 7] := by kernel_rfl
theorem ze55 : zeroOf Go.Proofs.Try.prog 55 = some [.v (.bool false), .v (.bool false), .v (vi 0), .v (vi 0), .v (vi 0), .v (vi 0), .s true 1 [], .s true 1 [], .v (vi 0), .s true 7 [], .v (vi 0), .s true 7 []] := by kernel_rfl
theorem by55 : bytesOf Go.Proofs.Try.prog 55 = some 152 := by kernel_rfl
theorem ag55 : aggOf Go.Proofs.Try.prog 55 = some true := by kernel_rfl
theorem is55 : isStruct Go.Proofs.Try.prog 55 = true := by kernel_rfl
theorem fo55_0 : fieldOf Go.Proofs.Try.prog 55 0 = some (0, 1, false) := by kernel_rfl
theorem fo55_1 : fieldOf Go.Proofs.Try.prog 55 1 = some (1, 1, false) := by kernel_rfl
theorem fo55_2 : fieldOf Go.Proofs.Try.prog 55 2 = some (2, 1, false) := by kernel_rfl
theorem fo55_3 : fieldOf Go.Proofs.Try.prog 55 3 = some (3, 1, false) := by kernel_rfl
theorem fo55_4 : fieldOf Go.Proofs.Try.prog 55 4 = some (4, 4, true) := by kernel_rfl
theorem fo55_5 : fieldOf Go.Proofs.Try.prog 55 5 = some (8, 1, false) := by kernel_rfl
theorem fo55_6 : fieldOf Go.Proofs.Try.prog 55 6 = some (9, 1, false) := by kernel_rfl
theorem fo55_7 : fieldOf Go.Proofs.Try.prog 55 7 = some (10, 1, false) := by kernel_rfl
theorem fo55_8 : fieldOf Go.Proofs.Try.prog 55 8 = some (11, 1, false) := by kernel_rfl
theorem sz34 : szOf Go.Proofs.Try.prog 34 = some 1 := by kernel_rfl
theorem ki34 : kinds Go.Proofs.Try.prog 12 34 = some [some 12] := by kernel_rfl
theorem ze34 : zeroOf Go.Proofs.Try.prog 34 = some [.s true 12 []] := by kernel_rfl
theorem by34 : bytesOf Go.Proofs.Try.prog 34 = some 24 := by kernel_rfl
theorem ag34 : aggOf Go.Proofs.Try.prog 34 = some false := by kernel_rfl
theorem el34 : elemOf Go.Proofs.Try.prog 34 = some 62 := by kernel_rfl
theorem un34 : Go.Proofs.Try.prog.underlying 34 = some (.slice 62) := by kernel_rfl
theorem sz22 : szOf Go.Proofs.Try.prog 22 = some 1 := by kernel_rfl
theorem ki22 : kinds Go.Proofs.Try.prog 12 22 = some [some 12] := by kernel_rfl
theorem ze22 : zeroOf Go.Proofs.Try.prog 22 = some [.s true 12 []] := by kernel_rfl
theorem by22 : bytesOf Go.Proofs.Try.prog 22 = some 24 := by kernel_rfl
theorem ag22 : aggOf Go.Proofs.Try.prog 22 = some false := by kernel_rfl
theorem el22 : elemOf Go.Proofs.Try.prog 22 = some 55 := by kernel_rfl
theorem un22 : Go.Proofs.Try.prog.underlying 22 = some (.slice 55) := by kernel_rfl
theorem sz41 : szOf Go.Proofs.Try.prog 41 = some 10 := by kernel_rfl
theorem ki41 : kinds Go.Proofs.Try.prog 12 41 = some [none, some 12, some 1, some 4, none, none, none, none, none, some 3] := by kernel_rfl
theorem ze41 : zeroOf Go.Proofs.Try.prog 41 = some [.v (vi 0), .s true 12 [], .s true 1 [], .s true 4 [], .v (vi 0), .v (vi 0), .v (vi 0), .v (vi 0), .v (vi 0), .s true 3 []] := by kernel_rfl
theorem by41 : bytesOf Go.Proofs.Try.prog 41 = some 144 := by kernel_rfl
theorem ag41 : aggOf Go.Proofs.Try.prog 41 = some true := by kernel_rfl
theorem is41 : isStruct Go.Proofs.Try.prog 41 = true := by kernel_rfl
theorem fo41_0 : fieldOf Go.Proofs.Try.prog 41 0 = some (0, 1, false) := by kernel_rfl
theorem fo41_1 : fieldOf Go.Proofs.Try.prog 41 1 = some (1, 1, false) := by kernel_rfl
theorem fo41_2 : fieldOf Go.Proofs.Try.prog 41 2 = some (2, 1, false) := by kernel_rfl
theorem fo41_3 : fieldOf Go.Proofs.Try.prog 41 3 = some (3, 2, true) := by kernel_rfl
theorem fo41_4 : fieldOf Go.Proofs.Try.prog 41 4 = some (5, 1, false) := by kernel_rfl
theorem fo41_5 : fieldOf Go.Proofs.Try.prog 41 5 = some (6, 3, true) := by kernel_rfl
theorem fo41_6 : fieldOf Go.Proofs.Try.prog 41 6 = some (9, 1, false) := by kernel_rfl
theorem sz31 : szOf Go.Proofs.Try.prog 31 = some 10 := by kernel_rfl
theorem ki31 : kinds Go.Proofs.Try.prog 12 31 = some [none, some 12, some 1, some 4, none, none, none, none, none, some 3] := by kernel_rfl
theorem ze31 : zeroOf Go.Proofs.Try.prog 31 = some [.v (vi 0), .s true 12 [], .s true 1 [], .s true 4 [], .v (vi 0), .v (vi 0), .v (vi 0), .v (vi 0), .v (vi 0), .s true 3 []] := by kernel_rfl
theorem by31 : bytesOf Go.Proofs.Try.prog 31 = some 144 := by kernel_rfl
theorem ag31 : aggOf Go.Proofs.Try.prog 31 = some true := by kernel_rfl
theorem is31 : isStruct Go.Proofs.Try.prog 31 = true := by kernel_rfl
theorem fo31_0 : fieldOf Go.Proofs.Try.prog 31 0 = some (0, 1, false) := by kernel_rfl
theorem fo31_1 : fieldOf Go.Proofs.Try.prog 31 1 = some (1, 1, false) := by kernel_rfl
theorem fo31_2 : fieldOf Go.Proofs.Try.prog 31 2 = some (2, 1, false) := by kernel_rfl
theorem fo31_3 : fieldOf Go.Proofs.Try.prog 31 3 = some (3, 2, true) := by kernel_rfl
theorem fo31_4 : fieldOf Go.Proofs.Try.prog 31 4 = some (5, 1, false) := by kernel_rfl
theorem fo31_5 : fieldOf Go.Proofs.Try.prog 31 5 = some (6, 3, true) := by kernel_rfl
theorem fo31_6 : fieldOf Go.Proofs.Try.prog 31 6 = some (9, 1, false) := by kernel_rfl
attribute [go_sem] sz3 ki3 ze3 by3 ag3 sz4 ki4 ze4 by4 ag4 un4 sz23 ki23 ze23 by23 ag23 el23 un23 sz104 ki104 ze104 by104 ag104 is104 fo104_0 fo104_1 fo104_2 fo104_3 fo104_4 fo104_5 gu104 fe104 sz106 ki106 ze106 by106 ag106 is106 fo106_0 fo106_1 gu106 fe106 sz60 ki60 ze60 by60 ag60 el60 un60 sz59 ki59 ze59 by59 ag59 is59 fo59_0 fo59_1 fo59_2 fo59_3 sz81 ki81 ze81 by81 ag81 is81 fo81_0 fo81_1 fo81_2 gu81 fe81 sz39 ki39 ze39 by39 ag39 el39 un39 sz62 ki62 ze62 by62 ag62 is62 fo62_0 fo62_1 fo62_2 fo62_3 fo62_4 fo62_5 fo62_6 fo62_7 fo62_8 un140 un153 ki140 ki153 un3 el3n sz108 ki108 ze108 by108 ag108 is108 fo108_0 fo108_1 fo108_2 fo108_3 fo108_4 fo108_5 gu108 fe108 sz110 ki110 ze110 by110 ag110 is110 fo110_0 fo110_1 gu110 fe110 sz92 ki92 ze92 by92 ag92 is92 fo92_0 fo92_1 fo92_2 gu92 fe92 sz38 ki38 ze38 by38 ag38 is38 fo38_0 fo38_1 fo38_2 gu38 fe38 sz28 ki28 ze28 by28 ag28 is28 fo28_0 fo28_1 fo28_2 gu28 fe28 sz53 ki53 ze53 by53 ag53 el53 un53 sz29 ki29 ze29 by29 ag29 el29 un29 sz52 ki52 ze52 by52 ag52 is52 fo52_0 fo52_1 fo52_2 fo52_3 sz35 ki35 ze35 by35 ag35 el35 un35 sz24 ki24 ze24 by24 ag24 el24 un24 sz37 ki37 ze37 by37 ag37 is37 fo37_0 fo37_1 sz26 ki26 ze26 by26 ag26 is26 fo26_0 fo26_1 sz55 ki55 ze55 by55 ag55 is55 fo55_0 fo55_1 fo55_2 fo55_3 fo55_4 fo55_5 fo55_6 fo55_7 fo55_8 sz34 ki34 ze34 by34 ag34 el34 un34 sz22 ki22 ze22 by22 ag22 el22 un22 sz41 ki41 ze41 by41 ag41 is41 fo41_0 fo41_1 fo41_2 fo41_3 fo41_4 fo41_5 fo41_6 sz31 ki31 ze31 by31 ag31 is31 fo31_0 fo31_1 fo31_2 fo31_3 fo31_4 fo31_5 fo31_6
end Go.Abs
