/- Facts about the program's types. No condition. -/
import Derived.Test.YtijifinpifomcaaGreatPlain
import Derived.KernelRfl
import Derived.Test.YtijifinpifomcaaGreatProg
set_option linter.unusedVariables false
set_option linter.unusedSimpArgs false
set_option linter.unnecessarySimpa false
set_option linter.constructorNameAsVariable false
set_option linter.unusedSectionVars false
set_option maxRecDepth 100000
namespace Go.Abs
open Go
theorem sz3 : szOf Go.Proofs.Tryz.prog 3 = some 1 := by kernel_rfl
theorem ki3 : kinds Go.Proofs.Tryz.prog 12 3 = some [none] := by kernel_rfl
theorem ze3 : zeroOf Go.Proofs.Tryz.prog 3 = some [.v (vi 0)] := by kernel_rfl
theorem by3 : bytesOf Go.Proofs.Tryz.prog 3 = some 8 := by kernel_rfl
theorem ag3 : aggOf Go.Proofs.Tryz.prog 3 = some false := by kernel_rfl
theorem sz4 : szOf Go.Proofs.Tryz.prog 4 = some 1 := by kernel_rfl
theorem ki4 : kinds Go.Proofs.Tryz.prog 12 4 = some [none] := by kernel_rfl
theorem ze4 : zeroOf Go.Proofs.Tryz.prog 4 = some [.v (.bool false)] := by kernel_rfl
theorem by4 : bytesOf Go.Proofs.Tryz.prog 4 = some 1 := by kernel_rfl
theorem ag4 : aggOf Go.Proofs.Tryz.prog 4 = some false := by kernel_rfl
theorem un4 : Go.Proofs.Tryz.prog.underlying 4 = some .bool := by kernel_rfl
theorem sz23 : szOf Go.Proofs.Tryz.prog 23 = some 1 := by kernel_rfl
theorem ki23 : kinds Go.Proofs.Tryz.prog 12 23 = some [some 1] := by kernel_rfl
theorem ze23 : zeroOf Go.Proofs.Tryz.prog 23 = some [.s true 1 []] := by kernel_rfl
theorem by23 : bytesOf Go.Proofs.Tryz.prog 23 = some 24 := by kernel_rfl
theorem ag23 : aggOf Go.Proofs.Tryz.prog 23 = some false := by kernel_rfl
theorem el23 : elemOf Go.Proofs.Tryz.prog 23 = some 3 := by kernel_rfl
theorem un23 : Go.Proofs.Tryz.prog.underlying 23 = some (.slice 3) := by kernel_rfl
theorem sz102 : szOf Go.Proofs.Tryz.prog 102 = some 6 := by kernel_rfl
theorem ki102 : kinds Go.Proofs.Tryz.prog 12 102 = some [none, none, none, none, none, none] := by kernel_rfl
theorem ze102 : zeroOf Go.Proofs.Tryz.prog 102 = some [.v (vi 0), .v (vi 0), .v (vi 0), .v (vi 0), .v (vi 0), .v (vi 0)] := by kernel_rfl
theorem by102 : bytesOf Go.Proofs.Tryz.prog 102 = some 48 := by kernel_rfl
theorem ag102 : aggOf Go.Proofs.Tryz.prog 102 = some true := by kernel_rfl
theorem is102 : isStruct Go.Proofs.Tryz.prog 102 = true := by kernel_rfl
theorem fo102_0 : fieldOf Go.Proofs.Tryz.prog 102 0 = some (0, 1, false) := by kernel_rfl
theorem fo102_1 : fieldOf Go.Proofs.Tryz.prog 102 1 = some (1, 1, false) := by kernel_rfl
theorem fo102_2 : fieldOf Go.Proofs.Tryz.prog 102 2 = some (2, 1, false) := by kernel_rfl
theorem fo102_3 : fieldOf Go.Proofs.Tryz.prog 102 3 = some (3, 1, false) := by kernel_rfl
theorem fo102_4 : fieldOf Go.Proofs.Tryz.prog 102 4 = some (4, 1, false) := by kernel_rfl
theorem fo102_5 : fieldOf Go.Proofs.Tryz.prog 102 5 = some (5, 1, false) := by kernel_rfl
theorem gu102 : Go.Proofs.Tryz.prog.eqGuardType Go.Proofs.Tryz.prog.depth 102 = false := by kernel_rfl
theorem fe102 : flatEq Go.Proofs.Tryz.prog 12 102 = some [.i, .i, .i, .i, .i, .i] := by kernel_rfl
theorem sz51 : szOf Go.Proofs.Tryz.prog 51 = some 1 := by kernel_rfl
theorem ki51 : kinds Go.Proofs.Tryz.prog 12 51 = some [some 7] := by kernel_rfl
theorem ze51 : zeroOf Go.Proofs.Tryz.prog 51 = some [.s true 7 []] := by kernel_rfl
theorem by51 : bytesOf Go.Proofs.Tryz.prog 51 = some 24 := by kernel_rfl
theorem ag51 : aggOf Go.Proofs.Tryz.prog 51 = some false := by kernel_rfl
theorem el51 : elemOf Go.Proofs.Tryz.prog 51 = some 104 := by kernel_rfl
theorem sz104 : szOf Go.Proofs.Tryz.prog 104 = some 7 := by kernel_rfl
theorem ki104 : kinds Go.Proofs.Tryz.prog 12 104 = some [none, none, none, none, none, none, none] := by kernel_rfl
theorem ze104 : zeroOf Go.Proofs.Tryz.prog 104 = some [.v (vi 0), .v (vi 0), .v (vi 0), .v (vi 0), .v (vi 0), .v (vi 0), .v (vi 0)] := by kernel_rfl
theorem by104 : bytesOf Go.Proofs.Tryz.prog 104 = some 56 := by kernel_rfl
theorem ag104 : aggOf Go.Proofs.Tryz.prog 104 = some true := by kernel_rfl
theorem is104 : isStruct Go.Proofs.Tryz.prog 104 = true := by kernel_rfl
theorem fo104_0 : fieldOf Go.Proofs.Tryz.prog 104 0 = some (0, 1, false) := by kernel_rfl
theorem fo104_1 : fieldOf Go.Proofs.Tryz.prog 104 1 = some (1, 6, true) := by kernel_rfl
theorem gu104 : Go.Proofs.Tryz.prog.eqGuardType Go.Proofs.Tryz.prog.depth 104 = false := by kernel_rfl
theorem fe104 : flatEq Go.Proofs.Tryz.prog 12 104 = some [.i, .i, .i, .i, .i, .i, .i] := by kernel_rfl
theorem un51 : Go.Proofs.Tryz.prog.underlying 51 = some (.slice 104) := by kernel_rfl
theorem sz50 : szOf Go.Proofs.Tryz.prog 50 = some 4 := by kernel_rfl
theorem ki50 : kinds Go.Proofs.Tryz.prog 12 50 = some [none, none, some 1, some 1] := by kernel_rfl
theorem ze50 : zeroOf Go.Proofs.Tryz.prog 50 = some [.v (vi 0), .v (vi 0), .s true 1 [], .s true 1 []] := by kernel_rfl
theorem by50 : bytesOf Go.Proofs.Tryz.prog 50 = some 64 := by kernel_rfl
theorem ag50 : aggOf Go.Proofs.Tryz.prog 50 = some true := by kernel_rfl
theorem is50 : isStruct Go.Proofs.Tryz.prog 50 = true := by kernel_rfl
theorem fo50_0 : fieldOf Go.Proofs.Tryz.prog 50 0 = some (0, 1, false) := by kernel_rfl
theorem fo50_1 : fieldOf Go.Proofs.Tryz.prog 50 1 = some (1, 1, false) := by kernel_rfl
theorem fo50_2 : fieldOf Go.Proofs.Tryz.prog 50 2 = some (2, 1, false) := by kernel_rfl
theorem fo50_3 : fieldOf Go.Proofs.Tryz.prog 50 3 = some (3, 1, false) := by kernel_rfl
theorem sz38 : szOf Go.Proofs.Tryz.prog 38 = some 1 := by kernel_rfl
theorem ki38 : kinds Go.Proofs.Tryz.prog 12 38 = some [some 3] := by kernel_rfl
theorem ze38 : zeroOf Go.Proofs.Tryz.prog 38 = some [.s true 3 []] := by kernel_rfl
theorem by38 : bytesOf Go.Proofs.Tryz.prog 38 = some 24 := by kernel_rfl
theorem ag38 : aggOf Go.Proofs.Tryz.prog 38 = some false := by kernel_rfl
theorem el38 : elemOf Go.Proofs.Tryz.prog 38 = some 122 := by kernel_rfl
theorem sz122 : szOf Go.Proofs.Tryz.prog 122 = some 3 := by kernel_rfl
theorem ki122 : kinds Go.Proofs.Tryz.prog 12 122 = some [none, none, none] := by kernel_rfl
theorem ze122 : zeroOf Go.Proofs.Tryz.prog 122 = some [.v (vi 0), .v (vi 0), .v (vi 0)] := by kernel_rfl
theorem by122 : bytesOf Go.Proofs.Tryz.prog 122 = some 24 := by kernel_rfl
theorem ag122 : aggOf Go.Proofs.Tryz.prog 122 = some true := by kernel_rfl
theorem is122 : isStruct Go.Proofs.Tryz.prog 122 = true := by kernel_rfl
theorem fo122_0 : fieldOf Go.Proofs.Tryz.prog 122 0 = some (0, 1, false) := by kernel_rfl
theorem fo122_1 : fieldOf Go.Proofs.Tryz.prog 122 1 = some (1, 1, false) := by kernel_rfl
theorem fo122_2 : fieldOf Go.Proofs.Tryz.prog 122 2 = some (2, 1, false) := by kernel_rfl
theorem gu122 : Go.Proofs.Tryz.prog.eqGuardType Go.Proofs.Tryz.prog.depth 122 = false := by kernel_rfl
theorem fe122 : flatEq Go.Proofs.Tryz.prog 12 122 = some [.i, .i, .i] := by kernel_rfl
theorem un38 : Go.Proofs.Tryz.prog.underlying 38 = some (.slice 122) := by kernel_rfl
theorem sz34 : szOf Go.Proofs.Tryz.prog 34 = some 1 := by kernel_rfl
theorem ki34 : kinds Go.Proofs.Tryz.prog 12 34 = some [some 4] := by kernel_rfl
theorem ze34 : zeroOf Go.Proofs.Tryz.prog 34 = some [.s true 4 []] := by kernel_rfl
theorem by34 : bytesOf Go.Proofs.Tryz.prog 34 = some 24 := by kernel_rfl
theorem ag34 : aggOf Go.Proofs.Tryz.prog 34 = some false := by kernel_rfl
theorem el34 : elemOf Go.Proofs.Tryz.prog 34 = some 50 := by kernel_rfl
theorem un34 : Go.Proofs.Tryz.prog.underlying 34 = some (.slice 50) := by kernel_rfl
theorem sz36 : szOf Go.Proofs.Tryz.prog 36 = some 2 := by kernel_rfl
theorem ki36 : kinds Go.Proofs.Tryz.prog 12 36 = some [some 4, none] := by kernel_rfl
theorem ze36 : zeroOf Go.Proofs.Tryz.prog 36 = some [.s true 4 [], .v (vi 0)] := by kernel_rfl
theorem by36 : bytesOf Go.Proofs.Tryz.prog 36 = some 32 := by kernel_rfl
theorem ag36 : aggOf Go.Proofs.Tryz.prog 36 = some true := by kernel_rfl
theorem is36 : isStruct Go.Proofs.Tryz.prog 36 = true := by kernel_rfl
theorem fo36_0 : fieldOf Go.Proofs.Tryz.prog 36 0 = some (0, 1, false) := by kernel_rfl
theorem fo36_1 : fieldOf Go.Proofs.Tryz.prog 36 1 = some (1, 1, false) := by kernel_rfl
theorem sz37 : szOf Go.Proofs.Tryz.prog 37 = some 3 := by kernel_rfl
theorem ki37 : kinds Go.Proofs.Tryz.prog 12 37 = some [none, none, none] := by kernel_rfl
theorem ze37 : zeroOf Go.Proofs.Tryz.prog 37 = some [.v (vi 0), .v (vi 0), .v (vi 0)] := by kernel_rfl
theorem by37 : bytesOf Go.Proofs.Tryz.prog 37 = some 24 := by kernel_rfl
theorem ag37 : aggOf Go.Proofs.Tryz.prog 37 = some true := by kernel_rfl
theorem is37 : isStruct Go.Proofs.Tryz.prog 37 = true := by kernel_rfl
theorem fo37_0 : fieldOf Go.Proofs.Tryz.prog 37 0 = some (0, 1, false) := by kernel_rfl
theorem fo37_1 : fieldOf Go.Proofs.Tryz.prog 37 1 = some (1, 1, false) := by kernel_rfl
theorem fo37_2 : fieldOf Go.Proofs.Tryz.prog 37 2 = some (2, 1, false) := by kernel_rfl
theorem gu37 : Go.Proofs.Tryz.prog.eqGuardType Go.Proofs.Tryz.prog.depth 37 = false := by kernel_rfl
theorem fe37 : flatEq Go.Proofs.Tryz.prog 12 37 = some [.i, .i, .i] := by kernel_rfl
theorem sz53 : szOf Go.Proofs.Tryz.prog 53 = some 12 := by kernel_rfl
theorem ki53 : kinds Go.Proofs.Tryz.prog 12 53 = some [none, none, none, none, none, none, some 1, some 1, none, some 7, none, some 7] := by kernel_rfl
theorem ze53 : zeroOf Go.Proofs.Tryz.prog 53 = some [.v (.bool false), .v (.bool false), .v (vi 0), .v (vi 0), .v (vi 0), .v (vi 0), .s true 1 [], .s true 1 [], .v (vi 0), .s true 7 [], .v (vi 0), .s true 7 []] := by kernel_rfl
theorem by53 : bytesOf Go.Proofs.Tryz.prog 53 = some 152 := by kernel_rfl
theorem ag53 : aggOf Go.Proofs.Tryz.prog 53 = some true := by kernel_rfl
theorem is53 : isStruct Go.Proofs.Tryz.prog 53 = true := by kernel_rfl
theorem fo53_0 : fieldOf Go.Proofs.Tryz.prog 53 0 = some (0, 1, false) := by kernel_rfl
theorem fo53_1 : fieldOf Go.Proofs.Tryz.prog 53 1 = some (1, 1, false) := by kernel_rfl
theorem fo53_2 : fieldOf Go.Proofs.Tryz.prog 53 2 = some (2, 1, false) := by kernel_rfl
theorem fo53_3 : fieldOf Go.Proofs.Tryz.prog 53 3 = some (3, 1, false) := by kernel_rfl
theorem fo53_4 : fieldOf Go.Proofs.Tryz.prog 53 4 = some (4, 4, true) := by kernel_rfl
theorem fo53_5 : fieldOf Go.Proofs.Tryz.prog 53 5 = some (8, 1, false) := by kernel_rfl
theorem fo53_6 : fieldOf Go.Proofs.Tryz.prog 53 6 = some (9, 1, false) := by kernel_rfl
theorem fo53_7 : fieldOf Go.Proofs.Tryz.prog 53 7 = some (10, 1, false) := by kernel_rfl
theorem fo53_8 : fieldOf Go.Proofs.Tryz.prog 53 8 = some (11, 1, false) := by kernel_rfl
theorem sz33 : szOf Go.Proofs.Tryz.prog 33 = some 1 := by kernel_rfl
theorem ki33 : kinds Go.Proofs.Tryz.prog 12 33 = some [some 12] := by kernel_rfl
theorem ze33 : zeroOf Go.Proofs.Tryz.prog 33 = some [.s true 12 []] := by kernel_rfl
theorem by33 : bytesOf Go.Proofs.Tryz.prog 33 = some 24 := by kernel_rfl
theorem ag33 : aggOf Go.Proofs.Tryz.prog 33 = some false := by kernel_rfl
theorem el33 : elemOf Go.Proofs.Tryz.prog 33 = some 53 := by kernel_rfl
theorem un33 : Go.Proofs.Tryz.prog.underlying 33 = some (.slice 53) := by kernel_rfl
theorem sz40 : szOf Go.Proofs.Tryz.prog 40 = some 10 := by kernel_rfl
theorem ki40 : kinds Go.Proofs.Tryz.prog 12 40 = some [none, some 12, some 1, some 4, none, none, none, none, none, some 3] := by kernel_rfl
theorem ze40 : zeroOf Go.Proofs.Tryz.prog 40 = some [.v (vi 0), .s true 12 [], .s true 1 [], .s true 4 [], .v (vi 0), .v (vi 0), .v (vi 0), .v (vi 0), .v (vi 0), .s true 3 []] := by kernel_rfl
theorem by40 : bytesOf Go.Proofs.Tryz.prog 40 = some 144 := by kernel_rfl
theorem ag40 : aggOf Go.Proofs.Tryz.prog 40 = some true := by kernel_rfl
theorem is40 : isStruct Go.Proofs.Tryz.prog 40 = true := by kernel_rfl
theorem fo40_0 : fieldOf Go.Proofs.Tryz.prog 40 0 = some (0, 1, false) := by kernel_rfl
theorem fo40_1 : fieldOf Go.Proofs.Tryz.prog 40 1 = some (1, 1, false) := by kernel_rfl
theorem fo40_2 : fieldOf Go.Proofs.Tryz.prog 40 2 = some (2, 1, false) := by kernel_rfl
theorem fo40_3 : fieldOf Go.Proofs.Tryz.prog 40 3 = some (3, 2, true) := by kernel_rfl
theorem fo40_4 : fieldOf Go.Proofs.Tryz.prog 40 4 = some (5, 1, false) := by kernel_rfl
theorem fo40_5 : fieldOf Go.Proofs.Tryz.prog 40 5 = some (6, 3, true) := by kernel_rfl
theorem fo40_6 : fieldOf Go.Proofs.Tryz.prog 40 6 = some (9, 1, false) := by kernel_rfl
theorem un151 : Go.Proofs.Tryz.prog.underlying 151 = some (.int .u64) := by kernel_rfl
theorem un184 : Go.Proofs.Tryz.prog.underlying 184 = some (.int .u64) := by kernel_rfl
theorem ki151 : kinds Go.Proofs.Tryz.prog 12 151 = some [none] := by kernel_rfl
theorem ki184 : kinds Go.Proofs.Tryz.prog 12 184 = some [none] := by kernel_rfl
theorem un3 : Go.Proofs.Tryz.prog.underlying 3 = some (.int .i64) := by kernel_rfl
theorem el3n : elemOf Go.Proofs.Tryz.prog 3 = none := by kernel_rfl
theorem sz159 : szOf Go.Proofs.Tryz.prog 159 = some 6 := by kernel_rfl
theorem ki159 : kinds Go.Proofs.Tryz.prog 12 159 = some [none, none, none, none, none, none] := by kernel_rfl
theorem ze159 : zeroOf Go.Proofs.Tryz.prog 159 = some [.v (vi 0), .v (vi 0), .v (vi 0), .v (vi 0), .v (vi 0), .v (vi 0)] := by kernel_rfl
theorem by159 : bytesOf Go.Proofs.Tryz.prog 159 = some 48 := by kernel_rfl
theorem ag159 : aggOf Go.Proofs.Tryz.prog 159 = some true := by kernel_rfl
theorem is159 : isStruct Go.Proofs.Tryz.prog 159 = true := by kernel_rfl
theorem fo159_0 : fieldOf Go.Proofs.Tryz.prog 159 0 = some (0, 1, false) := by kernel_rfl
theorem fo159_1 : fieldOf Go.Proofs.Tryz.prog 159 1 = some (1, 1, false) := by kernel_rfl
theorem fo159_2 : fieldOf Go.Proofs.Tryz.prog 159 2 = some (2, 1, false) := by kernel_rfl
theorem fo159_3 : fieldOf Go.Proofs.Tryz.prog 159 3 = some (3, 1, false) := by kernel_rfl
theorem fo159_4 : fieldOf Go.Proofs.Tryz.prog 159 4 = some (4, 1, false) := by kernel_rfl
theorem fo159_5 : fieldOf Go.Proofs.Tryz.prog 159 5 = some (5, 1, false) := by kernel_rfl
theorem gu159 : Go.Proofs.Tryz.prog.eqGuardType Go.Proofs.Tryz.prog.depth 159 = false := by kernel_rfl
theorem fe159 : flatEq Go.Proofs.Tryz.prog 12 159 = some [.i, .i, .i, .i, .i, .i] := by kernel_rfl
theorem sz161 : szOf Go.Proofs.Tryz.prog 161 = some 7 := by kernel_rfl
theorem ki161 : kinds Go.Proofs.Tryz.prog 12 161 = some [none, none, none, none, none, none, none] := by kernel_rfl
theorem ze161 : zeroOf Go.Proofs.Tryz.prog 161 = some [.v (vi 0), .v (vi 0), .v (vi 0), .v (vi 0), .v (vi 0), .v (vi 0), .v (vi 0)] := by kernel_rfl
theorem by161 : bytesOf Go.Proofs.Tryz.prog 161 = some 56 := by kernel_rfl
theorem ag161 : aggOf Go.Proofs.Tryz.prog 161 = some true := by kernel_rfl
theorem is161 : isStruct Go.Proofs.Tryz.prog 161 = true := by kernel_rfl
theorem fo161_0 : fieldOf Go.Proofs.Tryz.prog 161 0 = some (0, 1, false) := by kernel_rfl
theorem fo161_1 : fieldOf Go.Proofs.Tryz.prog 161 1 = some (1, 6, true) := by kernel_rfl
theorem gu161 : Go.Proofs.Tryz.prog.eqGuardType Go.Proofs.Tryz.prog.depth 161 = false := by kernel_rfl
theorem fe161 : flatEq Go.Proofs.Tryz.prog 12 161 = some [.i, .i, .i, .i, .i, .i, .i] := by kernel_rfl
theorem sz124 : szOf Go.Proofs.Tryz.prog 124 = some 3 := by kernel_rfl
theorem ki124 : kinds Go.Proofs.Tryz.prog 12 124 = some [none, none, none] := by kernel_rfl
theorem ze124 : zeroOf Go.Proofs.Tryz.prog 124 = some [.v (vi 0), .v (vi 0), .v (vi 0)] := by kernel_rfl
theorem by124 : bytesOf Go.Proofs.Tryz.prog 124 = some 24 := by kernel_rfl
theorem ag124 : aggOf Go.Proofs.Tryz.prog 124 = some true := by kernel_rfl
theorem is124 : isStruct Go.Proofs.Tryz.prog 124 = true := by kernel_rfl
theorem fo124_0 : fieldOf Go.Proofs.Tryz.prog 124 0 = some (0, 1, false) := by kernel_rfl
theorem fo124_1 : fieldOf Go.Proofs.Tryz.prog 124 1 = some (1, 1, false) := by kernel_rfl
theorem fo124_2 : fieldOf Go.Proofs.Tryz.prog 124 2 = some (2, 1, false) := by kernel_rfl
theorem gu124 : Go.Proofs.Tryz.prog.eqGuardType Go.Proofs.Tryz.prog.depth 124 = false := by kernel_rfl
theorem fe124 : flatEq Go.Proofs.Tryz.prog 12 124 = some [.i, .i, .i] := by kernel_rfl
theorem sz28 : szOf Go.Proofs.Tryz.prog 28 = some 3 := by kernel_rfl
theorem ki28 : kinds Go.Proofs.Tryz.prog 12 28 = some [none, none, none] := by kernel_rfl
theorem ze28 : zeroOf Go.Proofs.Tryz.prog 28 = some [.v (vi 0), .v (vi 0), .v (vi 0)] := by kernel_rfl
theorem by28 : bytesOf Go.Proofs.Tryz.prog 28 = some 24 := by kernel_rfl
theorem ag28 : aggOf Go.Proofs.Tryz.prog 28 = some true := by kernel_rfl
theorem is28 : isStruct Go.Proofs.Tryz.prog 28 = true := by kernel_rfl
theorem fo28_0 : fieldOf Go.Proofs.Tryz.prog 28 0 = some (0, 1, false) := by kernel_rfl
theorem fo28_1 : fieldOf Go.Proofs.Tryz.prog 28 1 = some (1, 1, false) := by kernel_rfl
theorem fo28_2 : fieldOf Go.Proofs.Tryz.prog 28 2 = some (2, 1, false) := by kernel_rfl
theorem gu28 : Go.Proofs.Tryz.prog.eqGuardType Go.Proofs.Tryz.prog.depth 28 = false := by kernel_rfl
theorem fe28 : flatEq Go.Proofs.Tryz.prog 12 28 = some [.i, .i, .i] := by kernel_rfl
theorem sz113 : szOf Go.Proofs.Tryz.prog 113 = some 1 := by kernel_rfl
theorem ki113 : kinds Go.Proofs.Tryz.prog 12 113 = some [some 7] := by kernel_rfl
theorem ze113 : zeroOf Go.Proofs.Tryz.prog 113 = some [.s true 7 []] := by kernel_rfl
theorem by113 : bytesOf Go.Proofs.Tryz.prog 113 = some 24 := by kernel_rfl
theorem ag113 : aggOf Go.Proofs.Tryz.prog 113 = some false := by kernel_rfl
theorem el113 : elemOf Go.Proofs.Tryz.prog 113 = some 161 := by kernel_rfl
theorem un113 : Go.Proofs.Tryz.prog.underlying 113 = some (.slice 161) := by kernel_rfl
theorem sz29 : szOf Go.Proofs.Tryz.prog 29 = some 1 := by kernel_rfl
theorem ki29 : kinds Go.Proofs.Tryz.prog 12 29 = some [some 3] := by kernel_rfl
theorem ze29 : zeroOf Go.Proofs.Tryz.prog 29 = some [.s true 3 []] := by kernel_rfl
theorem by29 : bytesOf Go.Proofs.Tryz.prog 29 = some 24 := by kernel_rfl
theorem ag29 : aggOf Go.Proofs.Tryz.prog 29 = some false := by kernel_rfl
theorem el29 : elemOf Go.Proofs.Tryz.prog 29 = some 124 := by kernel_rfl
theorem un29 : Go.Proofs.Tryz.prog.underlying 29 = some (.slice 124) := by kernel_rfl
theorem sz112 : szOf Go.Proofs.Tryz.prog 112 = some 4 := by kernel_rfl
theorem ki112 : kinds Go.Proofs.Tryz.prog 12 112 = some [none, none, some 1, some 1] := by kernel_rfl
theorem ze112 : zeroOf Go.Proofs.Tryz.prog 112 = some [.v (vi 0), .v (vi 0), .s true 1 [], .s true 1 []] := by kernel_rfl
theorem by112 : bytesOf Go.Proofs.Tryz.prog 112 = some 64 := by kernel_rfl
theorem ag112 : aggOf Go.Proofs.Tryz.prog 112 = some true := by kernel_rfl
theorem is112 : isStruct Go.Proofs.Tryz.prog 112 = true := by kernel_rfl
theorem fo112_0 : fieldOf Go.Proofs.Tryz.prog 112 0 = some (0, 1, false) := by kernel_rfl
theorem fo112_1 : fieldOf Go.Proofs.Tryz.prog 112 1 = some (1, 1, false) := by kernel_rfl
theorem fo112_2 : fieldOf Go.Proofs.Tryz.prog 112 2 = some (2, 1, false) := by kernel_rfl
theorem fo112_3 : fieldOf Go.Proofs.Tryz.prog 112 3 = some (3, 1, false) := by kernel_rfl
theorem sz24 : szOf Go.Proofs.Tryz.prog 24 = some 1 := by kernel_rfl
theorem ki24 : kinds Go.Proofs.Tryz.prog 12 24 = some [some 4] := by kernel_rfl
theorem ze24 : zeroOf Go.Proofs.Tryz.prog 24 = some [.s true 4 []] := by kernel_rfl
theorem by24 : bytesOf Go.Proofs.Tryz.prog 24 = some 24 := by kernel_rfl
theorem ag24 : aggOf Go.Proofs.Tryz.prog 24 = some false := by kernel_rfl
theorem el24 : elemOf Go.Proofs.Tryz.prog 24 = some 112 := by kernel_rfl
theorem un24 : Go.Proofs.Tryz.prog.underlying 24 = some (.slice 112) := by kernel_rfl
theorem sz26 : szOf Go.Proofs.Tryz.prog 26 = some 2 := by kernel_rfl
theorem ki26 : kinds Go.Proofs.Tryz.prog 12 26 = some [some 4, none] := by kernel_rfl
theorem ze26 : zeroOf Go.Proofs.Tryz.prog 26 = some [.s true 4 [], .v (vi 0)] := by kernel_rfl
theorem by26 : bytesOf Go.Proofs.Tryz.prog 26 = some 32 := by kernel_rfl
theorem ag26 : aggOf Go.Proofs.Tryz.prog 26 = some true := by kernel_rfl
theorem is26 : isStruct Go.Proofs.Tryz.prog 26 = true := by kernel_rfl
theorem fo26_0 : fieldOf Go.Proofs.Tryz.prog 26 0 = some (0, 1, false) := by kernel_rfl
theorem fo26_1 : fieldOf Go.Proofs.Tryz.prog 26 1 = some (1, 1, false) := by kernel_rfl
theorem sz115 : szOf Go.Proofs.Tryz.prog 115 = some 12 := by kernel_rfl
theorem ki115 : kinds Go.Proofs.Tryz.prog 12 115 = some [none, none, none, none, none, none, some 1, some 1, none, some 7, none, some 7] := by kernel_rfl
theorem ze115 : zeroOf Go.Proofs.Tryz.prog 115 = some [.v (.bool false), .v (.bool false), .v (vi 0), .v (vi 0), .v (vi 0), .v (vi 0), .s true 1 [], .s true 1 [], .v (vi 0), .s true 7 [], .v (vi 0), .s true 7 []] := by kernel_rfl
theorem by115 : bytesOf Go.Proofs.Tryz.prog 115 = some 152 := by kernel_rfl
theorem ag115 : aggOf Go.Proofs.Tryz.prog 115 = some true := by kernel_rfl
theorem is115 : isStruct Go.Proofs.Tryz.prog 115 = true := by kernel_rfl
theorem fo115_0 : fieldOf Go.Proofs.Tryz.prog 115 0 = some (0, 1, false) := by kernel_rfl
theorem fo115_1 : fieldOf Go.Proofs.Tryz.prog 115 1 = some (1, 1, false) := by kernel_rfl
theorem fo115_2 : fieldOf Go.Proofs.Tryz.prog 115 2 = some (2, 1, false) := by kernel_rfl
theorem fo115_3 : fieldOf Go.Proofs.Tryz.prog 115 3 = some (3, 1, false) := by kernel_rfl
theorem fo115_4 : fieldOf Go.Proofs.Tryz.prog 115 4 = some (4, 4, true) := by kernel_rfl
theorem fo115_5 : fieldOf Go.Proofs.Tryz.prog 115 5 = some (8, 1, false) := by kernel_rfl
theorem fo115_6 : fieldOf Go.Proofs.Tryz.prog 115 6 = some (9, 1, false) := by kernel_rfl
theorem fo115_7 : fieldOf Go.Proofs.Tryz.prog 115 7 = some (10, 1, false) := by kernel_rfl
theorem fo115_8 : fieldOf Go.Proofs.Tryz.prog 115 8 = some (11, 1, false) := by kernel_rfl
theorem sz22 : szOf Go.Proofs.Tryz.prog 22 = some 1 := by kernel_rfl
theorem ki22 : kinds Go.Proofs.Tryz.prog 12 22 = some [some 12] := by kernel_rfl
theorem ze22 : zeroOf Go.Proofs.Tryz.prog 22 = some [.s true 12 []] := by kernel_rfl
theorem by22 : bytesOf Go.Proofs.Tryz.prog 22 = some 24 := by kernel_rfl
theorem ag22 : aggOf Go.Proofs.Tryz.prog 22 = some false := by kernel_rfl
theorem el22 : elemOf Go.Proofs.Tryz.prog 22 = some 115 := by kernel_rfl
theorem un22 : Go.Proofs.Tryz.prog.underlying 22 = some (.slice 115) := by kernel_rfl
theorem sz31 : szOf Go.Proofs.Tryz.prog 31 = some 10 := by kernel_rfl
theorem ki31 : kinds Go.Proofs.Tryz.prog 12 31 = some [none, some 12, some 1, some 4, none, none, none, none, none, some 3] := by kernel_rfl
theorem ze31 : zeroOf Go.Proofs.Tryz.prog 31 = some [.v (vi 0), .s true 12 [], .s true 1 [], .s true 4 [], .v (vi 0), .v (vi 0), .v (vi 0), .v (vi 0), .v (vi 0), .s true 3 []] := by kernel_rfl
theorem by31 : bytesOf Go.Proofs.Tryz.prog 31 = some 144 := by kernel_rfl
theorem ag31 : aggOf Go.Proofs.Tryz.prog 31 = some true := by kernel_rfl
theorem is31 : isStruct Go.Proofs.Tryz.prog 31 = true := by kernel_rfl
theorem fo31_0 : fieldOf Go.Proofs.Tryz.prog 31 0 = some (0, 1, false) := by kernel_rfl
theorem fo31_1 : fieldOf Go.Proofs.Tryz.prog 31 1 = some (1, 1, false) := by kernel_rfl
theorem fo31_2 : fieldOf Go.Proofs.Tryz.prog 31 2 = some (2, 1, false) := by kernel_rfl
theorem fo31_3 : fieldOf Go.Proofs.Tryz.prog 31 3 = some (3, 2, true) := by kernel_rfl
theorem fo31_4 : fieldOf Go.Proofs.Tryz.prog 31 4 = some (5, 1, false) := by kernel_rfl
theorem fo31_5 : fieldOf Go.Proofs.Tryz.prog 31 5 = some (6, 3, true) := by kernel_rfl
theorem fo31_6 : fieldOf Go.Proofs.Tryz.prog 31 6 = some (9, 1, false) := by kernel_rfl
theorem un9 : Go.Proofs.Tryz.prog.underlying 9 = some .string := by kernel_rfl
theorem eln9 : elemOf Go.Proofs.Tryz.prog 9 = none := by kernel_rfl
theorem un5 : Go.Proofs.Tryz.prog.underlying 5 = some (.int .u8) := by kernel_rfl
theorem un47 : Go.Proofs.Tryz.prog.underlying 47 = some (.slice 5) := by kernel_rfl
theorem el47 : elemOf Go.Proofs.Tryz.prog 47 = some 5 := by kernel_rfl
theorem ki5 : kinds Go.Proofs.Tryz.prog 12 5 = some [none] := by kernel_rfl
theorem sz5 : szOf Go.Proofs.Tryz.prog 5 = some 1 := by kernel_rfl
theorem ze5 : zeroOf Go.Proofs.Tryz.prog 5 = some [.v (.int .u8 0)] := by kernel_rfl
theorem ki9 : kinds Go.Proofs.Tryz.prog 12 9 = some [none] := by kernel_rfl
theorem sz9 : szOf Go.Proofs.Tryz.prog 9 = some 1 := by kernel_rfl
theorem ze9 : zeroOf Go.Proofs.Tryz.prog 9 = some [.v (.string ⟨#[]⟩)] := by kernel_rfl
theorem by9 : bytesOf Go.Proofs.Tryz.prog 9 = some 16 := by kernel_rfl
theorem ag9 : aggOf Go.Proofs.Tryz.prog 9 = some false := by kernel_rfl
attribute [go_sem] sz3 ki3 ze3 by3 ag3 sz4 ki4 ze4 by4 ag4 un4 sz23 ki23 ze23 by23 ag23 el23 un23 sz102 ki102 ze102 by102 ag102 is102 fo102_0 fo102_1 fo102_2 fo102_3 fo102_4 fo102_5 gu102 fe102 sz51 ki51 ze51 by51 ag51 el51 sz104 ki104 ze104 by104 ag104 is104 fo104_0 fo104_1 gu104 fe104 un51 sz50 ki50 ze50 by50 ag50 is50 fo50_0 fo50_1 fo50_2 fo50_3 sz38 ki38 ze38 by38 ag38 el38 sz122 ki122 ze122 by122 ag122 is122 fo122_0 fo122_1 fo122_2 gu122 fe122 un38 sz34 ki34 ze34 by34 ag34 el34 un34 sz36 ki36 ze36 by36 ag36 is36 fo36_0 fo36_1 sz37 ki37 ze37 by37 ag37 is37 fo37_0 fo37_1 fo37_2 gu37 fe37 sz53 ki53 ze53 by53 ag53 is53 fo53_0 fo53_1 fo53_2 fo53_3 fo53_4 fo53_5 fo53_6 fo53_7 fo53_8 sz33 ki33 ze33 by33 ag33 el33 un33 sz40 ki40 ze40 by40 ag40 is40 fo40_0 fo40_1 fo40_2 fo40_3 fo40_4 fo40_5 fo40_6 un151 un184 ki151 ki184 un3 el3n sz159 ki159 ze159 by159 ag159 is159 fo159_0 fo159_1 fo159_2 fo159_3 fo159_4 fo159_5 gu159 fe159 sz161 ki161 ze161 by161 ag161 is161 fo161_0 fo161_1 gu161 fe161 sz124 ki124 ze124 by124 ag124 is124 fo124_0 fo124_1 fo124_2 gu124 fe124 sz28 ki28 ze28 by28 ag28 is28 fo28_0 fo28_1 fo28_2 gu28 fe28 sz113 ki113 ze113 by113 ag113 el113 un113 sz29 ki29 ze29 by29 ag29 el29 un29 sz112 ki112 ze112 by112 ag112 is112 fo112_0 fo112_1 fo112_2 fo112_3 sz24 ki24 ze24 by24 ag24 el24 un24 sz26 ki26 ze26 by26 ag26 is26 fo26_0 fo26_1 sz115 ki115 ze115 by115 ag115 is115 fo115_0 fo115_1 fo115_2 fo115_3 fo115_4 fo115_5 fo115_6 fo115_7 fo115_8 sz22 ki22 ze22 by22 ag22 el22 un22 sz31 ki31 ze31 by31 ag31 is31 fo31_0 fo31_1 fo31_2 fo31_3 fo31_4 fo31_5 fo31_6 un9 eln9 un5 un47 el47 ki5 sz5 ze5 ki9 sz9 ze9 by9 ag9
end Go.Abs
namespace Go.Abs
theorem HFS : (∀ (p : Prop) [Decidable p], (decide p = true) = p) ∧ (∀ (p : Prop) [Decidable p], (decide p = false) = ¬ p) ∧ (∀ b : Bool, ((!b) = true) = (b = false)) ∧ (∀ b : Bool, ((!b) = false) = (b = true)) ∧ (∀ b : Bool, (¬ (b = true)) = (b = false)) ∧ (∀ b : Bool, (¬ (b = false)) = (b = true)) ∧
    (∀ (α : Type) [BEq α] [LawfulBEq α] (a b : α), ((a == b) = true) = (a = b)) ∧ (∀ (α : Type) [BEq α] [LawfulBEq α] (a b : α), ((a == b) = false) = (a ≠ b)) ∧ (∀ (α : Type) [BEq α] [LawfulBEq α] (a b : α), ((a != b) = true) = (a ≠ b)) ∧ (∀ (α : Type) [BEq α] [LawfulBEq α] (a b : α), ((a != b) = false) = (a = b)) ∧
    (∀ a b : Int, (¬ a < b) = (b ≤ a)) ∧ (∀ a b : Int, (¬ a ≤ b) = (b < a)) ∧ (∀ (α : Type) (a b : α), (a ≠ b) = ¬ (a = b)) :=
  ⟨fun _ _ => decide_eq_true_eq, fun _ _ => propext decide_eq_false_iff_not, fun _ => Bool.not_eq_true' _, fun _ => Bool.not_eq_false' _, fun _ => Bool.not_eq_true _, fun _ => Bool.not_eq_false _, fun _ _ _ _ _ => propext beq_iff_eq, fun _ _ _ _ _ => propext beq_eq_false_iff_ne, fun _ _ _ _ _ => propext bne_iff_ne, fun _ _ _ _ _ => propext bne_eq_false_iff_eq, fun _ _ => propext Int.not_lt, fun _ _ => propext Int.not_le, fun _ _ _ => rfl⟩
theorem IJS : (∀ (α : Type) (a b : α) (l m : List α), (a :: l = b :: m) = (a = b ∧ l = m)) ∧ (∀ a b, (A.c a = A.c b) = (a = b)) ∧ (∀ a b, (A.a a = A.a b) = (a = b)) ∧ (∀ x y, (T.v x = T.v y) = (x = y)) ∧ (∀ a b c a' b' c', (T.s a b c = T.s a' b' c') = (a = a' ∧ b = b' ∧ c = c')) ∧ (∀ a b, (Value.bool a = Value.bool b) = (a = b)) ∧ (∀ k m k' m', (Value.int k m = Value.int k' m') = (k = k' ∧ m = m')) ∧ (∀ p : Prop, (p ∧ True) = p) ∧ (∀ p : Prop, (True ∧ p) = p) := by
  refine ⟨?_, ?_, ?_, ?_, ?_, ?_, ?_, ?_, ?_⟩ <;> intros <;> simp
end Go.Abs
