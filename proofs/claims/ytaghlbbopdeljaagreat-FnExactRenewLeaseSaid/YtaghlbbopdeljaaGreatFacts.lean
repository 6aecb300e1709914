/- Facts about the program's types. No condition. -/
import Derived.Test.YtaghlbbopdeljaaGreatPlain
import Derived.KernelRfl
import Derived.Test.YtaghlbbopdeljaaGreatProg
set_option linter.unusedVariables false
set_option linter.unusedSimpArgs false
set_option linter.unnecessarySimpa false
set_option linter.constructorNameAsVariable false
set_option maxRecDepth 100000
namespace Go.Abs
open Go
theorem sz3 : szOf Go.Proofs.Tryz.prog 3 = some 1 := by kernel_rfl
theorem ki3 : kinds Go.Proofs.Tryz.prog 12 3 = some [none] := by kernel_rfl
theorem ze3 : zeroOf Go.Proofs.Tryz.prog 3 = some [.v (vi 0)] := by kernel_rfl
theorem by3 : bytesOf Go.Proofs.Tryz.prog 3 = some 8 := by kernel_rfl
theorem ag3 : aggOf Go.Proofs.Tryz.prog 3 = some false := by kernel_rfl
theorem sz4 : szOf Go.Proofs.Tryz.prog 4 = some 1 := by kernel_rfl
theorem ki4 : kinds Go.Proofs.Tryz.prog 12 4 = some [none] := by kernel_rfl
theorem ze4 : zeroOf Go.Proofs.Tryz.prog 4 = some [.v (.bool false)] := by kernel_rfl
theorem by4 : bytesOf Go.Proofs.Tryz.prog 4 = some 1 := by kernel_rfl
theorem ag4 : aggOf Go.Proofs.Tryz.prog 4 = some false := by kernel_rfl
theorem un4 : Go.Proofs.Tryz.prog.underlying 4 = some .bool := by kernel_rfl
theorem sz23 : szOf Go.Proofs.Tryz.prog 23 = some 1 := by kernel_rfl
theorem ki23 : kinds Go.Proofs.Tryz.prog 12 23 = some [some 1] := by kernel_rfl
theorem ze23 : zeroOf Go.Proofs.Tryz.prog 23 = some [.s true 1 []] := by kernel_rfl
theorem by23 : bytesOf Go.Proofs.Tryz.prog 23 = some 24 := by kernel_rfl
theorem ag23 : aggOf Go.Proofs.Tryz.prog 23 = some false := by kernel_rfl
theorem el23 : elemOf Go.Proofs.Tryz.prog 23 = some 3 := by kernel_rfl
theorem un23 : Go.Proofs.Tryz.prog.underlying 23 = some (.slice 3) := by kernel_rfl
theorem sz90 : szOf Go.Proofs.Tryz.prog 90 = some 6 := by kernel_rfl
theorem ki90 : kinds Go.Proofs.Tryz.prog 12 90 = some [none, none, none, none, none, none] := by kernel_rfl
theorem ze90 : zeroOf Go.Proofs.Tryz.prog 90 = some [.v (vi 0), .v (vi 0), .v (vi 0), .v (vi 0), .v (vi 0), .v (vi 0)] := by kernel_rfl
theorem by90 : bytesOf Go.Proofs.Tryz.prog 90 = some 48 := by kernel_rfl
theorem ag90 : aggOf Go.Proofs.Tryz.prog 90 = some true := by kernel_rfl
theorem is90 : isStruct Go.Proofs.Tryz.prog 90 = true := by kernel_rfl
theorem fo90_0 : fieldOf Go.Proofs.Tryz.prog 90 0 = some (0, 1, false) := by kernel_rfl
theorem fo90_1 : fieldOf Go.Proofs.Tryz.prog 90 1 = some (1, 1, false) := by kernel_rfl
theorem fo90_2 : fieldOf Go.Proofs.Tryz.prog 90 2 = some (2, 1, false) := by kernel_rfl
theorem fo90_3 : fieldOf Go.Proofs.Tryz.prog 90 3 = some (3, 1, false) := by kernel_rfl
theorem fo90_4 : fieldOf Go.Proofs.Tryz.prog 90 4 = some (4, 1, false) := by kernel_rfl
theorem fo90_5 : fieldOf Go.Proofs.Tryz.prog 90 5 = some (5, 1, false) := by kernel_rfl
theorem gu90 : Go.Proofs.Tryz.prog.eqGuardType Go.Proofs.Tryz.prog.depth 90 = false := by kernel_rfl
theorem fe90 : flatEq Go.Proofs.Tryz.prog 12 90 = some [.i, .i, .i, .i, .i, .i] := by kernel_rfl
theorem sz85 : szOf Go.Proofs.Tryz.prog 85 = some 1 := by kernel_rfl
theorem ki85 : kinds Go.Proofs.Tryz.prog 12 85 = some [some 7] := by kernel_rfl
theorem ze85 : zeroOf Go.Proofs.Tryz.prog 85 = some [.s true 7 []] := by kernel_rfl
theorem by85 : bytesOf Go.Proofs.Tryz.prog 85 = some 24 := by kernel_rfl
theorem ag85 : aggOf Go.Proofs.Tryz.prog 85 = some false := by kernel_rfl
theorem el85 : elemOf Go.Proofs.Tryz.prog 85 = some 92 := by kernel_rfl
theorem sz92 : szOf Go.Proofs.Tryz.prog 92 = some 7 := by kernel_rfl
theorem ki92 : kinds Go.Proofs.Tryz.prog 12 92 = some [none, none, none, none, none, none, none] := by kernel_rfl
theorem ze92 : zeroOf Go.Proofs.Tryz.prog 92 = some [.v (vi 0), .v (vi 0), .v (vi 0), .v (vi 0), .v (vi 0), .v (vi 0), .v (vi 0)] := by kernel_rfl
theorem by92 : bytesOf Go.Proofs.Tryz.prog 92 = some 56 := by kernel_rfl
theorem ag92 : aggOf Go.Proofs.Tryz.prog 92 = some true := by kernel_rfl
theorem is92 : isStruct Go.Proofs.Tryz.prog 92 = true := by kernel_rfl
theorem fo92_0 : fieldOf Go.Proofs.Tryz.prog 92 0 = some (0, 1, false) := by kernel_rfl
theorem fo92_1 : fieldOf Go.Proofs.Tryz.prog 92 1 = some (1, 6, true) := by kernel_rfl
theorem gu92 : Go.Proofs.Tryz.prog.eqGuardType Go.Proofs.Tryz.prog.depth 92 = false := by kernel_rfl
theorem fe92 : flatEq Go.Proofs.Tryz.prog 12 92 = some [.i, .i, .i, .i, .i, .i, .i] := by kernel_rfl
theorem un85 : Go.Proofs.Tryz.prog.underlying 85 = some (.slice 92) := by kernel_rfl
theorem sz58 : szOf Go.Proofs.Tryz.prog 58 = some 4 := by kernel_rfl
theorem ki58 : kinds Go.Proofs.Tryz.prog 12 58 = some [none, none, some 1, some 1] := by kernel_rfl
theorem ze58 : zeroOf Go.Proofs.Tryz.prog 58 = some [.v (vi 0), .v (vi 0), .s true 1 [], .s true 1 []] := by kernel_rfl
theorem by58 : bytesOf Go.Proofs.Tryz.prog 58 = some 64 := by kernel_rfl
theorem ag58 : aggOf Go.Proofs.Tryz.prog 58 = some true := by kernel_rfl
theorem is58 : isStruct Go.Proofs.Tryz.prog 58 = true := by kernel_rfl
theorem fo58_0 : fieldOf Go.Proofs.Tryz.prog 58 0 = some (0, 1, false) := by kernel_rfl
theorem fo58_1 : fieldOf Go.Proofs.Tryz.prog 58 1 = some (1, 1, false) := by kernel_rfl
theorem fo58_2 : fieldOf Go.Proofs.Tryz.prog 58 2 = some (2, 1, false) := by kernel_rfl
theorem fo58_3 : fieldOf Go.Proofs.Tryz.prog 58 3 = some (3, 1, false) := by kernel_rfl
theorem sz113 : szOf Go.Proofs.Tryz.prog 113 = some 3 := by kernel_rfl
theorem ki113 : kinds Go.Proofs.Tryz.prog 12 113 = some [none, none, none] := by kernel_rfl
theorem ze113 : zeroOf Go.Proofs.Tryz.prog 113 = some [.v (vi 0), .v (vi 0), .v (vi 0)] := by kernel_rfl
theorem by113 : bytesOf Go.Proofs.Tryz.prog 113 = some 24 := by kernel_rfl
theorem ag113 : aggOf Go.Proofs.Tryz.prog 113 = some true := by kernel_rfl
theorem is113 : isStruct Go.Proofs.Tryz.prog 113 = true := by kernel_rfl
theorem fo113_0 : fieldOf Go.Proofs.Tryz.prog 113 0 = some (0, 1, false) := by kernel_rfl
theorem fo113_1 : fieldOf Go.Proofs.Tryz.prog 113 1 = some (1, 1, false) := by kernel_rfl
theorem fo113_2 : fieldOf Go.Proofs.Tryz.prog 113 2 = some (2, 1, false) := by kernel_rfl
theorem gu113 : Go.Proofs.Tryz.prog.eqGuardType Go.Proofs.Tryz.prog.depth 113 = false := by kernel_rfl
theorem fe113 : flatEq Go.Proofs.Tryz.prog 12 113 = some [.i, .i, .i] := by kernel_rfl
theorem sz39 : szOf Go.Proofs.Tryz.prog 39 = some 1 := by kernel_rfl
theorem ki39 : kinds Go.Proofs.Tryz.prog 12 39 = some [some 3] := by kernel_rfl
theorem ze39 : zeroOf Go.Proofs.Tryz.prog 39 = some [.s true 3 []] := by kernel_rfl
theorem by39 : bytesOf Go.Proofs.Tryz.prog 39 = some 24 := by kernel_rfl
theorem ag39 : aggOf Go.Proofs.Tryz.prog 39 = some false := by kernel_rfl
theorem el39 : elemOf Go.Proofs.Tryz.prog 39 = some 113 := by kernel_rfl
theorem un39 : Go.Proofs.Tryz.prog.underlying 39 = some (.slice 113) := by kernel_rfl
theorem sz35 : szOf Go.Proofs.Tryz.prog 35 = some 1 := by kernel_rfl
theorem ki35 : kinds Go.Proofs.Tryz.prog 12 35 = some [some 4] := by kernel_rfl
theorem ze35 : zeroOf Go.Proofs.Tryz.prog 35 = some [.s true 4 []] := by kernel_rfl
theorem by35 : bytesOf Go.Proofs.Tryz.prog 35 = some 24 := by kernel_rfl
theorem ag35 : aggOf Go.Proofs.Tryz.prog 35 = some false := by kernel_rfl
theorem el35 : elemOf Go.Proofs.Tryz.prog 35 = some 58 := by kernel_rfl
theorem un35 : Go.Proofs.Tryz.prog.underlying 35 = some (.slice 58) := by kernel_rfl
theorem sz37 : szOf Go.Proofs.Tryz.prog 37 = some 2 := by kernel_rfl
theorem ki37 : kinds Go.Proofs.Tryz.prog 12 37 = some [some 4, none] := by kernel_rfl
theorem ze37 : zeroOf Go.Proofs.Tryz.prog 37 = some [.s true 4 [], .v (vi 0)] := by kernel_rfl
theorem by37 : bytesOf Go.Proofs.Tryz.prog 37 = some 32 := by kernel_rfl
theorem ag37 : aggOf Go.Proofs.Tryz.prog 37 = some true := by kernel_rfl
theorem is37 : isStruct Go.Proofs.Tryz.prog 37 = true := by kernel_rfl
theorem fo37_0 : fieldOf Go.Proofs.Tryz.prog 37 0 = some (0, 1, false) := by kernel_rfl
theorem fo37_1 : fieldOf Go.Proofs.Tryz.prog 37 1 = some (1, 1, false) := by kernel_rfl
theorem sz38 : szOf Go.Proofs.Tryz.prog 38 = some 3 := by kernel_rfl
theorem ki38 : kinds Go.Proofs.Tryz.prog 12 38 = some [none, none, none] := by kernel_rfl
theorem ze38 : zeroOf Go.Proofs.Tryz.prog 38 = some [.v (vi 0), .v (vi 0), .v (vi 0)] := by kernel_rfl
theorem by38 : bytesOf Go.Proofs.Tryz.prog 38 = some 24 := by kernel_rfl
theorem ag38 : aggOf Go.Proofs.Tryz.prog 38 = some true := by kernel_rfl
theorem is38 : isStruct Go.Proofs.Tryz.prog 38 = true := by kernel_rfl
theorem fo38_0 : fieldOf Go.Proofs.Tryz.prog 38 0 = some (0, 1, false) := by kernel_rfl
theorem fo38_1 : fieldOf Go.Proofs.Tryz.prog 38 1 = some (1, 1, false) := by kernel_rfl
theorem fo38_2 : fieldOf Go.Proofs.Tryz.prog 38 2 = some (2, 1, false) := by kernel_rfl
theorem gu38 : Go.Proofs.Tryz.prog.eqGuardType Go.Proofs.Tryz.prog.depth 38 = false := by kernel_rfl
theorem fe38 : flatEq Go.Proofs.Tryz.prog 12 38 = some [.i, .i, .i] := by kernel_rfl
theorem sz87 : szOf Go.Proofs.Tryz.prog 87 = some 12 := by kernel_rfl
theorem ki87 : kinds Go.Proofs.Tryz.prog 12 87 = some [none, none, none, none, none, none, some 1, some 1, none, some 7, none, some 7] := by kernel_rfl
theorem ze87 : zeroOf Go.Proofs.Tryz.prog 87 = some [.v (.bool false), .v (.bool false), .v (vi 0), .v (vi 0), .v (vi 0), .v (vi 0), .s true 1 [], .s true 1 [], .v (vi 0), .s true 7 [], .v (vi 0), .s true 7 []] := by kernel_rfl
theorem by87 : bytesOf Go.Proofs.Tryz.prog 87 = some 152 := by kernel_rfl
theorem ag87 : aggOf Go.Proofs.Tryz.prog 87 = some true := by kernel_rfl
theorem is87 : isStruct Go.Proofs.Tryz.prog 87 = true := by kernel_rfl
theorem fo87_0 : fieldOf Go.Proofs.Tryz.prog 87 0 = some (0, 1, false) := by kernel_rfl
theorem fo87_1 : fieldOf Go.Proofs.Tryz.prog 87 1 = some (1, 1, false) := by kernel_rfl
theorem fo87_2 : fieldOf Go.Proofs.Tryz.prog 87 2 = some (2, 1, false) := by kernel_rfl
theorem fo87_3 : fieldOf Go.Proofs.Tryz.prog 87 3 = some (3, 1, false) := by kernel_rfl
theorem fo87_4 : fieldOf Go.Proofs.Tryz.prog 87 4 = some (4, 4, true) := by kernel_rfl
theorem fo87_5 : fieldOf Go.Proofs.Tryz.prog 87 5 = some (8, 1, false) := by kernel_rfl
theorem fo87_6 : fieldOf Go.Proofs.Tryz.prog 87 6 = some (9, 1, false) := by kernel_rfl
theorem fo87_7 : fieldOf Go.Proofs.Tryz.prog 87 7 = some (10, 1, false) := by kernel_rfl
theorem fo87_8 : fieldOf Go.Proofs.Tryz.prog 87 8 = some (11, 1, false) := by kernel_rfl
theorem sz34 : szOf Go.Proofs.Tryz.prog 34 = some 1 := by kernel_rfl
theorem ki34 : kinds Go.Proofs.Tryz.prog 12 34 = some [some 12] := by kernel_rfl
theorem ze34 : zeroOf Go.Proofs.Tryz.prog 34 = some [.s true 12 []] := by kernel_rfl
theorem by34 : bytesOf Go.Proofs.Tryz.prog 34 = some 24 := by kernel_rfl
theorem ag34 : aggOf Go.Proofs.Tryz.prog 34 = some false := by kernel_rfl
theorem el34 : elemOf Go.Proofs.Tryz.prog 34 = some 87 := by kernel_rfl
theorem un34 : Go.Proofs.Tryz.prog.underlying 34 = some (.slice 87) := by kernel_rfl
theorem sz41 : szOf Go.Proofs.Tryz.prog 41 = some 10 := by kernel_rfl
theorem ki41 : kinds Go.Proofs.Tryz.prog 12 41 = some [none, some 12, some 1, some 4, none, none, none, none, none, some 3] := by kernel_rfl
theorem ze41 : zeroOf Go.Proofs.Tryz.prog 41 = some [.v (vi 0), .s true 12 [], .s true 1 [], .s true 4 [], .v (vi 0), .v (vi 0), .v (vi 0), .v (vi 0), .v (vi 0), .s true 3 []] := by kernel_rfl
theorem by41 : bytesOf Go.Proofs.Tryz.prog 41 = some 144 := by kernel_rfl
theorem ag41 : aggOf Go.Proofs.Tryz.prog 41 = some true := by kernel_rfl
theorem is41 : isStruct Go.Proofs.Tryz.prog 41 = true := by kernel_rfl
theorem fo41_0 : fieldOf Go.Proofs.Tryz.prog 41 0 = some (0, 1, false) := by kernel_rfl
theorem fo41_1 : fieldOf Go.Proofs.Tryz.prog 41 1 = some (1, 1, false) := by kernel_rfl
theorem fo41_2 : fieldOf Go.Proofs.Tryz.prog 41 2 = some (2, 1, false) := by kernel_rfl
theorem fo41_3 : fieldOf Go.Proofs.Tryz.prog 41 3 = some (3, 2, true) := by kernel_rfl
theorem fo41_4 : fieldOf Go.Proofs.Tryz.prog 41 4 = some (5, 1, false) := by kernel_rfl
theorem fo41_5 : fieldOf Go.Proofs.Tryz.prog 41 5 = some (6, 3, true) := by kernel_rfl
theorem fo41_6 : fieldOf Go.Proofs.Tryz.prog 41 6 = some (9, 1, false) := by kernel_rfl
theorem un160 : Go.Proofs.Tryz.prog.underlying 160 = some (.int .u64) := by kernel_rfl
theorem un173 : Go.Proofs.Tryz.prog.underlying 173 = some (.int .u64) := by kernel_rfl
theorem ki160 : kinds Go.Proofs.Tryz.prog 12 160 = some [none] := by kernel_rfl
theorem ki173 : kinds Go.Proofs.Tryz.prog 12 173 = some [none] := by kernel_rfl
theorem un3 : Go.Proofs.Tryz.prog.underlying 3 = some (.int .i64) := by kernel_rfl
theorem el3n : elemOf Go.Proofs.Tryz.prog 3 = none := by kernel_rfl
theorem sz150 : szOf Go.Proofs.Tryz.prog 150 = some 1 := by kernel_rfl
theorem ki150 : kinds Go.Proofs.Tryz.prog 12 150 = some [some 1] := by kernel_rfl
theorem ze150 : zeroOf Go.Proofs.Tryz.prog 150 = some [.s true 1 []] := by kernel_rfl
theorem by150 : bytesOf Go.Proofs.Tryz.prog 150 = some 24 := by kernel_rfl
theorem ag150 : aggOf Go.Proofs.Tryz.prog 150 = some false := by kernel_rfl
theorem el150 : elemOf Go.Proofs.Tryz.prog 150 = some 23 := by kernel_rfl
theorem un150 : Go.Proofs.Tryz.prog.underlying 150 = some (.slice 23) := by kernel_rfl
theorem sz146 : szOf Go.Proofs.Tryz.prog 146 = some 6 := by kernel_rfl
theorem ki146 : kinds Go.Proofs.Tryz.prog 12 146 = some [none, none, none, none, none, none] := by kernel_rfl
theorem ze146 : zeroOf Go.Proofs.Tryz.prog 146 = some [.v (vi 0), .v (vi 0), .v (vi 0), .v (vi 0), .v (vi 0), .v (vi 0)] := by kernel_rfl
theorem by146 : bytesOf Go.Proofs.Tryz.prog 146 = some 48 := by kernel_rfl
theorem ag146 : aggOf Go.Proofs.Tryz.prog 146 = some true := by kernel_rfl
theorem is146 : isStruct Go.Proofs.Tryz.prog 146 = true := by kernel_rfl
theorem fo146_0 : fieldOf Go.Proofs.Tryz.prog 146 0 = some (0, 1, false) := by kernel_rfl
theorem fo146_1 : fieldOf Go.Proofs.Tryz.prog 146 1 = some (1, 1, false) := by kernel_rfl
theorem fo146_2 : fieldOf Go.Proofs.Tryz.prog 146 2 = some (2, 1, false) := by kernel_rfl
theorem fo146_3 : fieldOf Go.Proofs.Tryz.prog 146 3 = some (3, 1, false) := by kernel_rfl
theorem fo146_4 : fieldOf Go.Proofs.Tryz.prog 146 4 = some (4, 1, false) := by kernel_rfl
theorem fo146_5 : fieldOf Go.Proofs.Tryz.prog 146 5 = some (5, 1, false) := by kernel_rfl
theorem gu146 : Go.Proofs.Tryz.prog.eqGuardType Go.Proofs.Tryz.prog.depth 146 = false := by kernel_rfl
theorem fe146 : flatEq Go.Proofs.Tryz.prog 12 146 = some [.i, .i, .i, .i, .i, .i] := by kernel_rfl
theorem sz148 : szOf Go.Proofs.Tryz.prog 148 = some 7 := by kernel_rfl
theorem ki148 : kinds Go.Proofs.Tryz.prog 12 148 = some [none, none, none, none, none, none, none] := by kernel_rfl
theorem ze148 : zeroOf Go.Proofs.Tryz.prog 148 = some [.v (vi 0), .v (vi 0), .v (vi 0), .v (vi 0), .v (vi 0), .v (vi 0), .v (vi 0)] := by kernel_rfl
theorem by148 : bytesOf Go.Proofs.Tryz.prog 148 = some 56 := by kernel_rfl
theorem ag148 : aggOf Go.Proofs.Tryz.prog 148 = some true := by kernel_rfl
theorem is148 : isStruct Go.Proofs.Tryz.prog 148 = true := by kernel_rfl
theorem fo148_0 : fieldOf Go.Proofs.Tryz.prog 148 0 = some (0, 1, false) := by kernel_rfl
theorem fo148_1 : fieldOf Go.Proofs.Tryz.prog 148 1 = some (1, 6, true) := by kernel_rfl
theorem gu148 : Go.Proofs.Tryz.prog.eqGuardType Go.Proofs.Tryz.prog.depth 148 = false := by kernel_rfl
theorem fe148 : flatEq Go.Proofs.Tryz.prog 12 148 = some [.i, .i, .i, .i, .i, .i, .i] := by kernel_rfl
theorem sz115 : szOf Go.Proofs.Tryz.prog 115 = some 3 := by kernel_rfl
theorem ki115 : kinds Go.Proofs.Tryz.prog 12 115 = some [none, none, none] := by kernel_rfl
theorem ze115 : zeroOf Go.Proofs.Tryz.prog 115 = some [.v (vi 0), .v (vi 0), .v (vi 0)] := by kernel_rfl
theorem by115 : bytesOf Go.Proofs.Tryz.prog 115 = some 24 := by kernel_rfl
theorem ag115 : aggOf Go.Proofs.Tryz.prog 115 = some true := by kernel_rfl
theorem is115 : isStruct Go.Proofs.Tryz.prog 115 = true := by kernel_rfl
theorem fo115_0 : fieldOf Go.Proofs.Tryz.prog 115 0 = some (0, 1, false) := by kernel_rfl
theorem fo115_1 : fieldOf Go.Proofs.Tryz.prog 115 1 = some (1, 1, false) := by kernel_rfl
theorem fo115_2 : fieldOf Go.Proofs.Tryz.prog 115 2 = some (2, 1, false) := by kernel_rfl
theorem gu115 : Go.Proofs.Tryz.prog.eqGuardType Go.Proofs.Tryz.prog.depth 115 = false := by kernel_rfl
theorem fe115 : flatEq Go.Proofs.Tryz.prog 12 115 = some [.i, .i, .i] := by kernel_rfl
theorem sz28 : szOf Go.Proofs.Tryz.prog 28 = some 3 := by kernel_rfl
theorem ki28 : kinds Go.Proofs.Tryz.prog 12 28 = some [none, none, none] := by kernel_rfl
theorem ze28 : zeroOf Go.Proofs.Tryz.prog 28 = some [.v (vi 0), .v (vi 0), .v (vi 0)] := by kernel_rfl
theorem by28 : bytesOf Go.Proofs.Tryz.prog 28 = some 24 := by kernel_rfl
theorem ag28 : aggOf Go.Proofs.Tryz.prog 28 = some true := by kernel_rfl
theorem is28 : isStruct Go.Proofs.Tryz.prog 28 = true := by kernel_rfl
theorem fo28_0 : fieldOf Go.Proofs.Tryz.prog 28 0 = some (0, 1, false) := by kernel_rfl
theorem fo28_1 : fieldOf Go.Proofs.Tryz.prog 28 1 = some (1, 1, false) := by kernel_rfl
theorem fo28_2 : fieldOf Go.Proofs.Tryz.prog 28 2 = some (2, 1, false) := by kernel_rfl
theorem gu28 : Go.Proofs.Tryz.prog.eqGuardType Go.Proofs.Tryz.prog.depth 28 = false := by kernel_rfl
theorem fe28 : flatEq Go.Proofs.Tryz.prog 12 28 = some [.i, .i, .i] := by kernel_rfl
theorem sz102 : szOf Go.Proofs.Tryz.prog 102 = some 1 := by kernel_rfl
theorem ki102 : kinds Go.Proofs.Tryz.prog 12 102 = some [some 7] := by kernel_rfl
theorem ze102 : zeroOf Go.Proofs.Tryz.prog 102 = some [.s true 7 []] := by kernel_rfl
theorem by102 : bytesOf Go.Proofs.Tryz.prog 102 = some 24 := by kernel_rfl
theorem ag102 : aggOf Go.Proofs.Tryz.prog 102 = some false := by kernel_rfl
theorem el102 : elemOf Go.Proofs.Tryz.prog 102 = some 148 := by kernel_rfl
theorem un102 : Go.Proofs.Tryz.prog.underlying 102 = some (.slice 148) := by kernel_rfl
theorem sz29 : szOf Go.Proofs.Tryz.prog 29 = some 1 := by kernel_rfl
theorem ki29 : kinds Go.Proofs.Tryz.prog 12 29 = some [some 3] := by kernel_rfl
theorem ze29 : zeroOf Go.Proofs.Tryz.prog 29 = some [.s true 3 []] := by kernel_rfl
theorem by29 : bytesOf Go.Proofs.Tryz.prog 29 = some 24 := by kernel_rfl
theorem ag29 : aggOf Go.Proofs.Tryz.prog 29 = some false := by kernel_rfl
theorem el29 : elemOf Go.Proofs.Tryz.prog 29 = some 115 := by kernel_rfl
theorem un29 : Go.Proofs.Tryz.prog.underlying 29 = some (.slice 115) := by kernel_rfl
theorem sz55 : szOf Go.Proofs.Tryz.prog 55 = some 4 := by kernel_rfl
theorem ki55 : kinds Go.Proofs.Tryz.prog 12 55 = some [none, none, some 1, some 1] := by kernel_rfl
theorem ze55 : zeroOf Go.Proofs.Tryz.prog 55 = some [.v (vi 0), .v (vi 0), .s true 1 [], .s true 1 []] := by kernel_rfl
theorem by55 : bytesOf Go.Proofs.Tryz.prog 55 = some 64 := by kernel_rfl
theorem ag55 : aggOf Go.Proofs.Tryz.prog 55 = some true := by kernel_rfl
theorem is55 : isStruct Go.Proofs.Tryz.prog 55 = true := by kernel_rfl
theorem fo55_0 : fieldOf Go.Proofs.Tryz.prog 55 0 = some (0, 1, false) := by kernel_rfl
theorem fo55_1 : fieldOf Go.Proofs.Tryz.prog 55 1 = some (1, 1, false) := by kernel_rfl
theorem fo55_2 : fieldOf Go.Proofs.Tryz.prog 55 2 = some (2, 1, false) := by kernel_rfl
theorem fo55_3 : fieldOf Go.Proofs.Tryz.prog 55 3 = some (3, 1, false) := by kernel_rfl
theorem sz24 : szOf Go.Proofs.Tryz.prog 24 = some 1 := by kernel_rfl
theorem ki24 : kinds Go.Proofs.Tryz.prog 12 24 = some [some 4] := by kernel_rfl
theorem ze24 : zeroOf Go.Proofs.Tryz.prog 24 = some [.s true 4 []] := by kernel_rfl
theorem by24 : bytesOf Go.Proofs.Tryz.prog 24 = some 24 := by kernel_rfl
theorem ag24 : aggOf Go.Proofs.Tryz.prog 24 = some false := by kernel_rfl
theorem el24 : elemOf Go.Proofs.Tryz.prog 24 = some 55 := by kernel_rfl
theorem un24 : Go.Proofs.Tryz.prog.underlying 24 = some (.slice 55) := by kernel_rfl
theorem sz26 : szOf Go.Proofs.Tryz.prog 26 = some 2 := by kernel_rfl
theorem ki26 : kinds Go.Proofs.Tryz.prog 12 26 = some [some 4, none] := by kernel_rfl
theorem ze26 : zeroOf Go.Proofs.Tryz.prog 26 = some [.s true 4 [], .v (vi 0)] := by kernel_rfl
theorem by26 : bytesOf Go.Proofs.Tryz.prog 26 = some 32 := by kernel_rfl
theorem ag26 : aggOf Go.Proofs.Tryz.prog 26 = some true := by kernel_rfl
theorem is26 : isStruct Go.Proofs.Tryz.prog 26 = true := by kernel_rfl
theorem fo26_0 : fieldOf Go.Proofs.Tryz.prog 26 0 = some (0, 1, false) := by kernel_rfl
theorem fo26_1 : fieldOf Go.Proofs.Tryz.prog 26 1 = some (1, 1, false) := by kernel_rfl
theorem sz104 : szOf Go.Proofs.Tryz.prog 104 = some 12 := by kernel_rfl
theorem ki104 : kinds Go.Proofs.Tryz.prog 12 104 = some [none, none, none, none, none, none, some 1, some 1, none, some 7, none, some 7] := by kernel_rfl
theorem ze104 : zeroOf Go.Proofs.Tryz.prog 104 = some [.v (.bool false), .v (.bool false), .v (vi 0), .v (vi 0), .v (vi 0), .v (vi 0), .s true 1 [], .s true 1 [], .v (vi 0), .s true 7 [], .v (vi 0), .s true 7 []] := by kernel_rfl
theorem by104 : bytesOf Go.Proofs.Tryz.prog 104 = some 152 := by kernel_rfl
theorem ag104 : aggOf Go.Proofs.Tryz.prog 104 = some true := by kernel_rfl
theorem is104 : isStruct Go.Proofs.Tryz.prog 104 = true := by kernel_rfl
theorem fo104_0 : fieldOf Go.Proofs.Tryz.prog 104 0 = some (0, 1, false) := by kernel_rfl
theorem fo104_1 : fieldOf Go.Proofs.Tryz.prog 104 1 = some (1, 1, false) := by kernel_rfl
theorem fo104_2 : fieldOf Go.Proofs.Tryz.prog 104 2 = some (2, 1, false) := by kernel_rfl
theorem fo104_3 : fieldOf Go.Proofs.Tryz.prog 104 3 = some (3, 1, false) := by kernel_rfl
theorem fo104_4 : fieldOf Go.Proofs.Tryz.prog 104 4 = some (4, 4, true) := by kernel_rfl
theorem fo104_5 : fieldOf Go.Proofs.Tryz.prog 104 5 = some (8, 1, false) := by kernel_rfl
theorem fo104_6 : fieldOf Go.Proofs.Tryz.prog 104 6 = some (9, 1, false) := by kernel_rfl
theorem fo104_7 : fieldOf Go.Proofs.Tryz.prog 104 7 = some (10, 1, false) := by kernel_rfl
theorem fo104_8 : fieldOf Go.Proofs.Tryz.prog 104 8 = some (11, 1, false) := by kernel_rfl
theorem sz22 : szOf Go.Proofs.Tryz.prog 22 = some 1 := by kernel_rfl
theorem ki22 : kinds Go.Proofs.Tryz.prog 12 22 = some [some 12] := by kernel_rfl
theorem ze22 : zeroOf Go.Proofs.Tryz.prog 22 = some [.s true 12 []] := by kernel_rfl
theorem by22 : bytesOf Go.Proofs.Tryz.prog 22 = some 24 := by kernel_rfl
theorem ag22 : aggOf Go.Proofs.Tryz.prog 22 = some false := by kernel_rfl
theorem el22 : elemOf Go.Proofs.Tryz.prog 22 = some 104 := by kernel_rfl
theorem un22 : Go.Proofs.Tryz.prog.underlying 22 = some (.slice 104) := by kernel_rfl
theorem sz31 : szOf Go.Proofs.Tryz.prog 31 = some 10 := by kernel_rfl
theorem ki31 : kinds Go.Proofs.Tryz.prog 12 31 = some [none, some 12, some 1, some 4, none, none, none, none, none, some 3] := by kernel_rfl
theorem ze31 : zeroOf Go.Proofs.Tryz.prog 31 = some [.v (vi 0), .s true 12 [], .s true 1 [], .s true 4 [], .v (vi 0), .v (vi 0), .v (vi 0), .v (vi 0), .v (vi 0), .s true 3 []] := by kernel_rfl
theorem by31 : bytesOf Go.Proofs.Tryz.prog 31 = some 144 := by kernel_rfl
theorem ag31 : aggOf Go.Proofs.Tryz.prog 31 = some true := by kernel_rfl
theorem is31 : isStruct Go.Proofs.Tryz.prog 31 = true := by kernel_rfl
theorem fo31_0 : fieldOf Go.Proofs.Tryz.prog 31 0 = some (0, 1, false) := by kernel_rfl
theorem fo31_1 : fieldOf Go.Proofs.Tryz.prog 31 1 = some (1, 1, false) := by kernel_rfl
theorem fo31_2 : fieldOf Go.Proofs.Tryz.prog 31 2 = some (2, 1, false) := by kernel_rfl
theorem fo31_3 : fieldOf Go.Proofs.Tryz.prog 31 3 = some (3, 2, true) := by kernel_rfl
theorem fo31_4 : fieldOf Go.Proofs.Tryz.prog 31 4 = some (5, 1, false) := by kernel_rfl
theorem fo31_5 : fieldOf Go.Proofs.Tryz.prog 31 5 = some (6, 3, true) := by kernel_rfl
theorem fo31_6 : fieldOf Go.Proofs.Tryz.prog 31 6 = some (9, 1, false) := by kernel_rfl
attribute [go_sem] sz3 ki3 ze3 by3 ag3 sz4 ki4 ze4 by4 ag4 un4 sz23 ki23 ze23 by23 ag23 el23 un23 sz90 ki90 ze90 by90 ag90 is90 fo90_0 fo90_1 fo90_2 fo90_3 fo90_4 fo90_5 gu90 fe90 sz85 ki85 ze85 by85 ag85 el85 sz92 ki92 ze92 by92 ag92 is92 fo92_0 fo92_1 gu92 fe92 un85 sz58 ki58 ze58 by58 ag58 is58 fo58_0 fo58_1 fo58_2 fo58_3 sz113 ki113 ze113 by113 ag113 is113 fo113_0 fo113_1 fo113_2 gu113 fe113 sz39 ki39 ze39 by39 ag39 el39 un39 sz35 ki35 ze35 by35 ag35 el35 un35 sz37 ki37 ze37 by37 ag37 is37 fo37_0 fo37_1 sz38 ki38 ze38 by38 ag38 is38 fo38_0 fo38_1 fo38_2 gu38 fe38 sz87 ki87 ze87 by87 ag87 is87 fo87_0 fo87_1 fo87_2 fo87_3 fo87_4 fo87_5 fo87_6 fo87_7 fo87_8 sz34 ki34 ze34 by34 ag34 el34 un34 sz41 ki41 ze41 by41 ag41 is41 fo41_0 fo41_1 fo41_2 fo41_3 fo41_4 fo41_5 fo41_6 un160 un173 ki160 ki173 un3 el3n sz150 ki150 ze150 by150 ag150 el150 un150 sz146 ki146 ze146 by146 ag146 is146 fo146_0 fo146_1 fo146_2 fo146_3 fo146_4 fo146_5 gu146 fe146 sz148 ki148 ze148 by148 ag148 is148 fo148_0 fo148_1 gu148 fe148 sz115 ki115 ze115 by115 ag115 is115 fo115_0 fo115_1 fo115_2 gu115 fe115 sz28 ki28 ze28 by28 ag28 is28 fo28_0 fo28_1 fo28_2 gu28 fe28 sz102 ki102 ze102 by102 ag102 el102 un102 sz29 ki29 ze29 by29 ag29 el29 un29 sz55 ki55 ze55 by55 ag55 is55 fo55_0 fo55_1 fo55_2 fo55_3 sz24 ki24 ze24 by24 ag24 el24 un24 sz26 ki26 ze26 by26 ag26 is26 fo26_0 fo26_1 sz104 ki104 ze104 by104 ag104 is104 fo104_0 fo104_1 fo104_2 fo104_3 fo104_4 fo104_5 fo104_6 fo104_7 fo104_8 sz22 ki22 ze22 by22 ag22 el22 un22 sz31 ki31 ze31 by31 ag31 is31 fo31_0 fo31_1 fo31_2 fo31_3 fo31_4 fo31_5 fo31_6
end Go.Abs
