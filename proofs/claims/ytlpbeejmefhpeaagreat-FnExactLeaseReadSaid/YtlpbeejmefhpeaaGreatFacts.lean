/- Facts about the program's types. No condition. -/
import Derived.Test.YtlpbeejmefhpeaaGreatPlain
import Derived.KernelRfl
import Derived.Test.YtlpbeejmefhpeaaGreatProg
set_option linter.unusedVariables false
set_option linter.unusedSimpArgs false
set_option linter.unnecessarySimpa false
set_option linter.constructorNameAsVariable false
set_option maxRecDepth 100000
namespace Go.Abs
open Go
theorem sz3 : szOf Go.Proofs.Tryz.prog 3 = some 1 := by kernel_rfl
theorem ki3 : kinds Go.Proofs.Tryz.prog 12 3 = some [none] := by kernel_rfl
theorem ze3 : zeroOf Go.Proofs.Tryz.prog 3 = some [.v (vi 0)] := by kernel_rfl
theorem by3 : bytesOf Go.Proofs.Tryz.prog 3 = some 8 := by kernel_rfl
theorem ag3 : aggOf Go.Proofs.Tryz.prog 3 = some false := by kernel_rfl
theorem sz4 : szOf Go.Proofs.Tryz.prog 4 = some 1 := by kernel_rfl
theorem ki4 : kinds Go.Proofs.Tryz.prog 12 4 = some [none] := by kernel_rfl
theorem ze4 : zeroOf Go.Proofs.Tryz.prog 4 = some [.v (.bool false)] := by kernel_rfl
theorem by4 : bytesOf Go.Proofs.Tryz.prog 4 = some 1 := by kernel_rfl
theorem ag4 : aggOf Go.Proofs.Tryz.prog 4 = some false := by kernel_rfl
theorem un4 : Go.Proofs.Tryz.prog.underlying 4 = some .bool := by kernel_rfl
theorem sz23 : szOf Go.Proofs.Tryz.prog 23 = some 1 := by kernel_rfl
theorem ki23 : kinds Go.Proofs.Tryz.prog 12 23 = some [some 1] := by kernel_rfl
theorem ze23 : zeroOf Go.Proofs.Tryz.prog 23 = some [.s true 1 []] := by kernel_rfl
theorem by23 : bytesOf Go.Proofs.Tryz.prog 23 = some 24 := by kernel_rfl
theorem ag23 : aggOf Go.Proofs.Tryz.prog 23 = some false := by kernel_rfl
theorem el23 : elemOf Go.Proofs.Tryz.prog 23 = some 3 := by kernel_rfl
theorem un23 : Go.Proofs.Tryz.prog.underlying 23 = some (.slice 3) := by kernel_rfl
theorem sz56 : szOf Go.Proofs.Tryz.prog 56 = some 6 := by kernel_rfl
theorem ki56 : kinds Go.Proofs.Tryz.prog 12 56 = some [none, none, none, none, none, none] := by kernel_rfl
theorem ze56 : zeroOf Go.Proofs.Tryz.prog 56 = some [.v (vi 0), .v (vi 0), .v (vi 0), .v (vi 0), .v (vi 0), .v (vi 0)] := by kernel_rfl
theorem by56 : bytesOf Go.Proofs.Tryz.prog 56 = some 48 := by kernel_rfl
theorem ag56 : aggOf Go.Proofs.Tryz.prog 56 = some true := by kernel_rfl
theorem is56 : isStruct Go.Proofs.Tryz.prog 56 = true := by kernel_rfl
theorem fo56_0 : fieldOf Go.Proofs.Tryz.prog 56 0 = some (0, 1, false) := by kernel_rfl
theorem fo56_1 : fieldOf Go.Proofs.Tryz.prog 56 1 = some (1, 1, false) := by kernel_rfl
theorem fo56_2 : fieldOf Go.Proofs.Tryz.prog 56 2 = some (2, 1, false) := by kernel_rfl
theorem fo56_3 : fieldOf Go.Proofs.Tryz.prog 56 3 = some (3, 1, false) := by kernel_rfl
theorem fo56_4 : fieldOf Go.Proofs.Tryz.prog 56 4 = some (4, 1, false) := by kernel_rfl
theorem fo56_5 : fieldOf Go.Proofs.Tryz.prog 56 5 = some (5, 1, false) := by kernel_rfl
theorem gu56 : Go.Proofs.Tryz.prog.eqGuardType Go.Proofs.Tryz.prog.depth 56 = false := by kernel_rfl
theorem fe56 : flatEq Go.Proofs.Tryz.prog 12 56 = some [.i, .i, .i, .i, .i, .i] := by kernel_rfl
theorem sz74 : szOf Go.Proofs.Tryz.prog 74 = some 1 := by kernel_rfl
theorem ki74 : kinds Go.Proofs.Tryz.prog 12 74 = some [some 7] := by kernel_rfl
theorem ze74 : zeroOf Go.Proofs.Tryz.prog 74 = some [.s true 7 []] := by kernel_rfl
theorem by74 : bytesOf Go.Proofs.Tryz.prog 74 = some 24 := by kernel_rfl
theorem ag74 : aggOf Go.Proofs.Tryz.prog 74 = some false := by kernel_rfl
theorem el74 : elemOf Go.Proofs.Tryz.prog 74 = some 94 := by kernel_rfl
theorem sz94 : szOf Go.Proofs.Tryz.prog 94 = some 7 := by kernel_rfl
theorem ki94 : kinds Go.Proofs.Tryz.prog 12 94 = some [none, none, none, none, none, none, none] := by kernel_rfl
theorem ze94 : zeroOf Go.Proofs.Tryz.prog 94 = some [.v (vi 0), .v (vi 0), .v (vi 0), .v (vi 0), .v (vi 0), .v (vi 0), .v (vi 0)] := by kernel_rfl
theorem by94 : bytesOf Go.Proofs.Tryz.prog 94 = some 56 := by kernel_rfl
theorem ag94 : aggOf Go.Proofs.Tryz.prog 94 = some true := by kernel_rfl
theorem is94 : isStruct Go.Proofs.Tryz.prog 94 = true := by kernel_rfl
theorem fo94_0 : fieldOf Go.Proofs.Tryz.prog 94 0 = some (0, 1, false) := by kernel_rfl
theorem fo94_1 : fieldOf Go.Proofs.Tryz.prog 94 1 = some (1, 6, true) := by kernel_rfl
theorem gu94 : Go.Proofs.Tryz.prog.eqGuardType Go.Proofs.Tryz.prog.depth 94 = false := by kernel_rfl
theorem fe94 : flatEq Go.Proofs.Tryz.prog 12 94 = some [.i, .i, .i, .i, .i, .i, .i] := by kernel_rfl
theorem un74 : Go.Proofs.Tryz.prog.underlying 74 = some (.slice 94) := by kernel_rfl
theorem sz73 : szOf Go.Proofs.Tryz.prog 73 = some 4 := by kernel_rfl
theorem ki73 : kinds Go.Proofs.Tryz.prog 12 73 = some [none, none, some 1, some 1] := by kernel_rfl
theorem ze73 : zeroOf Go.Proofs.Tryz.prog 73 = some [.v (vi 0), .v (vi 0), .s true 1 [], .s true 1 []] := by kernel_rfl
theorem by73 : bytesOf Go.Proofs.Tryz.prog 73 = some 64 := by kernel_rfl
theorem ag73 : aggOf Go.Proofs.Tryz.prog 73 = some true := by kernel_rfl
theorem is73 : isStruct Go.Proofs.Tryz.prog 73 = true := by kernel_rfl
theorem fo73_0 : fieldOf Go.Proofs.Tryz.prog 73 0 = some (0, 1, false) := by kernel_rfl
theorem fo73_1 : fieldOf Go.Proofs.Tryz.prog 73 1 = some (1, 1, false) := by kernel_rfl
theorem fo73_2 : fieldOf Go.Proofs.Tryz.prog 73 2 = some (2, 1, false) := by kernel_rfl
theorem fo73_3 : fieldOf Go.Proofs.Tryz.prog 73 3 = some (3, 1, false) := by kernel_rfl
theorem sz122 : szOf Go.Proofs.Tryz.prog 122 = some 3 := by kernel_rfl
theorem ki122 : kinds Go.Proofs.Tryz.prog 12 122 = some [none, none, none] := by kernel_rfl
theorem ze122 : zeroOf Go.Proofs.Tryz.prog 122 = some [.v (vi 0), .v (vi 0), .v (vi 0)] := by kernel_rfl
theorem by122 : bytesOf Go.Proofs.Tryz.prog 122 = some 24 := by kernel_rfl
theorem ag122 : aggOf Go.Proofs.Tryz.prog 122 = some true := by kernel_rfl
theorem is122 : isStruct Go.Proofs.Tryz.prog 122 = true := by kernel_rfl
theorem fo122_0 : fieldOf Go.Proofs.Tryz.prog 122 0 = some (0, 1, false) := by kernel_rfl
theorem fo122_1 : fieldOf Go.Proofs.Tryz.prog 122 1 = some (1, 1, false) := by kernel_rfl
theorem fo122_2 : fieldOf Go.Proofs.Tryz.prog 122 2 = some (2, 1, false) := by kernel_rfl
theorem gu122 : Go.Proofs.Tryz.prog.eqGuardType Go.Proofs.Tryz.prog.depth 122 = false := by kernel_rfl
theorem fe122 : flatEq Go.Proofs.Tryz.prog 12 122 = some [.i, .i, .i] := by kernel_rfl
theorem sz43 : szOf Go.Proofs.Tryz.prog 43 = some 1 := by kernel_rfl
theorem ki43 : kinds Go.Proofs.Tryz.prog 12 43 = some [some 3] := by kernel_rfl
theorem ze43 : zeroOf Go.Proofs.Tryz.prog 43 = some [.s true 3 []] := by kernel_rfl
theorem by43 : bytesOf Go.Proofs.Tryz.prog 43 = some 24 := by kernel_rfl
theorem ag43 : aggOf Go.Proofs.Tryz.prog 43 = some false := by kernel_rfl
theorem el43 : elemOf Go.Proofs.Tryz.prog 43 = some 122 := by kernel_rfl
theorem un43 : Go.Proofs.Tryz.prog.underlying 43 = some (.slice 122) := by kernel_rfl
theorem sz39 : szOf Go.Proofs.Tryz.prog 39 = some 1 := by kernel_rfl
theorem ki39 : kinds Go.Proofs.Tryz.prog 12 39 = some [some 4] := by kernel_rfl
theorem ze39 : zeroOf Go.Proofs.Tryz.prog 39 = some [.s true 4 []] := by kernel_rfl
theorem by39 : bytesOf Go.Proofs.Tryz.prog 39 = some 24 := by kernel_rfl
theorem ag39 : aggOf Go.Proofs.Tryz.prog 39 = some false := by kernel_rfl
theorem el39 : elemOf Go.Proofs.Tryz.prog 39 = some 73 := by kernel_rfl
theorem un39 : Go.Proofs.Tryz.prog.underlying 39 = some (.slice 73) := by kernel_rfl
theorem sz41 : szOf Go.Proofs.Tryz.prog 41 = some 2 := by kernel_rfl
theorem ki41 : kinds Go.Proofs.Tryz.prog 12 41 = some [some 4, none] := by kernel_rfl
theorem ze41 : zeroOf Go.Proofs.Tryz.prog 41 = some [.s true 4 [], .v (vi 0)] := by kernel_rfl
theorem by41 : bytesOf Go.Proofs.Tryz.prog 41 = some 32 := by kernel_rfl
theorem ag41 : aggOf Go.Proofs.Tryz.prog 41 = some true := by kernel_rfl
theorem is41 : isStruct Go.Proofs.Tryz.prog 41 = true := by kernel_rfl
theorem fo41_0 : fieldOf Go.Proofs.Tryz.prog 41 0 = some (0, 1, false) := by kernel_rfl
theorem fo41_1 : fieldOf Go.Proofs.Tryz.prog 41 1 = some (1, 1, false) := by kernel_rfl
theorem sz42 : szOf Go.Proofs.Tryz.prog 42 = some 3 := by kernel_rfl
theorem ki42 : kinds Go.Proofs.Tryz.prog 12 42 = some [none, none, none] := by kernel_rfl
theorem ze42 : zeroOf Go.Proofs.Tryz.prog 42 = some [.v (vi 0), .v (vi 0), .v (vi 0)] := by kernel_rfl
theorem by42 : bytesOf Go.Proofs.Tryz.prog 42 = some 24 := by kernel_rfl
theorem ag42 : aggOf Go.Proofs.Tryz.prog 42 = some true := by kernel_rfl
theorem is42 : isStruct Go.Proofs.Tryz.prog 42 = true := by kernel_rfl
theorem fo42_0 : fieldOf Go.Proofs.Tryz.prog 42 0 = some (0, 1, false) := by kernel_rfl
theorem fo42_1 : fieldOf Go.Proofs.Tryz.prog 42 1 = some (1, 1, false) := by kernel_rfl
theorem fo42_2 : fieldOf Go.Proofs.Tryz.prog 42 2 = some (2, 1, false) := by kernel_rfl
theorem gu42 : Go.Proofs.Tryz.prog.eqGuardType Go.Proofs.Tryz.prog.depth 42 = false := by kernel_rfl
theorem fe42 : flatEq Go.Proofs.Tryz.prog 12 42 = some [.i, .i, .i] := by kernel_rfl
theorem sz76 : szOf Go.Proofs.Tryz.prog 76 = some 12 := by kernel_rfl
theorem ki76 : kinds Go.Proofs.Tryz.prog 12 76 = some [none, none, none, none, none, none, some 1, some 1, none, some 7, none, some 7] := by kernel_rfl
theorem ze76 : zeroOf Go.Proofs.Tryz.prog 76 = some [.v (.bool false), .v (.bool false), .v (vi 0), .v (vi 0), .v (vi 0), .v (vi 0), .s true 1 [], .s true 1 [], .v (vi 0), .s true 7 [], .v (vi 0), .s true 7 []] := by kernel_rfl
theorem by76 : bytesOf Go.Proofs.Tryz.prog 76 = some 152 := by kernel_rfl
theorem ag76 : aggOf Go.Proofs.Tryz.prog 76 = some true := by kernel_rfl
theorem is76 : isStruct Go.Proofs.Tryz.prog 76 = true := by kernel_rfl
theorem fo76_0 : fieldOf Go.Proofs.Tryz.prog 76 0 = some (0, 1, false) := by kernel_rfl
theorem fo76_1 : fieldOf Go.Proofs.Tryz.prog 76 1 = some (1, 1, false) := by kernel_rfl
theorem fo76_2 : fieldOf Go.Proofs.Tryz.prog 76 2 = some (2, 1, false) := by kernel_rfl
theorem fo76_3 : fieldOf Go.Proofs.Tryz.prog 76 3 = some (3, 1, false) := by kernel_rfl
theorem fo76_4 : fieldOf Go.Proofs.Tryz.prog 76 4 = some (4, 4, true) := by kernel_rfl
theorem fo76_5 : fieldOf Go.Proofs.Tryz.prog 76 5 = some (8, 1, false) := by kernel_rfl
theorem fo76_6 : fieldOf Go.Proofs.Tryz.prog 76 6 = some (9, 1, false) := by kernel_rfl
theorem fo76_7 : fieldOf Go.Proofs.Tryz.prog 76 7 = some (10, 1, false) := by kernel_rfl
theorem fo76_8 : fieldOf Go.Proofs.Tryz.prog 76 8 = some (11, 1, false) := by kernel_rfl
theorem sz38 : szOf Go.Proofs.Tryz.prog 38 = some 1 := by kernel_rfl
theorem ki38 : kinds Go.Proofs.Tryz.prog 12 38 = some [some 12] := by kernel_rfl
theorem ze38 : zeroOf Go.Proofs.Tryz.prog 38 = some [.s true 12 []] := by kernel_rfl
theorem by38 : bytesOf Go.Proofs.Tryz.prog 38 = some 24 := by kernel_rfl
theorem ag38 : aggOf Go.Proofs.Tryz.prog 38 = some false := by kernel_rfl
theorem el38 : elemOf Go.Proofs.Tryz.prog 38 = some 76 := by kernel_rfl
theorem un38 : Go.Proofs.Tryz.prog.underlying 38 = some (.slice 76) := by kernel_rfl
theorem sz45 : szOf Go.Proofs.Tryz.prog 45 = some 10 := by kernel_rfl
theorem ki45 : kinds Go.Proofs.Tryz.prog 12 45 = some [none, some 12, some 1, some 4, none, none, none, none, none, some 3] := by kernel_rfl
theorem ze45 : zeroOf Go.Proofs.Tryz.prog 45 = some [.v (vi 0), .s true 12 [], .s true 1 [], .s true 4 [], .v (vi 0), .v (vi 0), .v (vi 0), .v (vi 0), .v (vi 0), .s true 3 []] := by kernel_rfl
theorem by45 : bytesOf Go.Proofs.Tryz.prog 45 = some 144 := by kernel_rfl
theorem ag45 : aggOf Go.Proofs.Tryz.prog 45 = some true := by kernel_rfl
theorem is45 : isStruct Go.Proofs.Tryz.prog 45 = true := by kernel_rfl
theorem fo45_0 : fieldOf Go.Proofs.Tryz.prog 45 0 = some (0, 1, false) := by kernel_rfl
theorem fo45_1 : fieldOf Go.Proofs.Tryz.prog 45 1 = some (1, 1, false) := by kernel_rfl
theorem fo45_2 : fieldOf Go.Proofs.Tryz.prog 45 2 = some (2, 1, false) := by kernel_rfl
theorem fo45_3 : fieldOf Go.Proofs.Tryz.prog 45 3 = some (3, 2, true) := by kernel_rfl
theorem fo45_4 : fieldOf Go.Proofs.Tryz.prog 45 4 = some (5, 1, false) := by kernel_rfl
theorem fo45_5 : fieldOf Go.Proofs.Tryz.prog 45 5 = some (6, 3, true) := by kernel_rfl
theorem fo45_6 : fieldOf Go.Proofs.Tryz.prog 45 6 = some (9, 1, false) := by kernel_rfl
theorem un191 : Go.Proofs.Tryz.prog.underlying 191 = some (.int .u64) := by kernel_rfl
theorem un202 : Go.Proofs.Tryz.prog.underlying 202 = some (.int .u64) := by kernel_rfl
theorem ki191 : kinds Go.Proofs.Tryz.prog 12 191 = some [none] := by kernel_rfl
theorem ki202 : kinds Go.Proofs.Tryz.prog 12 202 = some [none] := by kernel_rfl
theorem un3 : Go.Proofs.Tryz.prog.underlying 3 = some (.int .i64) := by kernel_rfl
theorem sz95 : szOf Go.Proofs.Tryz.prog 95 = some 1 := by kernel_rfl
theorem ki95 : kinds Go.Proofs.Tryz.prog 12 95 = some [some 4] := by kernel_rfl
theorem ze95 : zeroOf Go.Proofs.Tryz.prog 95 = some [.s true 4 []] := by kernel_rfl
theorem by95 : bytesOf Go.Proofs.Tryz.prog 95 = some 24 := by kernel_rfl
theorem ag95 : aggOf Go.Proofs.Tryz.prog 95 = some false := by kernel_rfl
theorem el95 : elemOf Go.Proofs.Tryz.prog 95 = some 145 := by kernel_rfl
theorem sz145 : szOf Go.Proofs.Tryz.prog 145 = some 4 := by kernel_rfl
theorem ki145 : kinds Go.Proofs.Tryz.prog 12 145 = some [none, none, none, none] := by kernel_rfl
theorem ze145 : zeroOf Go.Proofs.Tryz.prog 145 = some [.v (vi 0), .v (vi 0), .v (.bool false), .v (vi 0)] := by kernel_rfl
theorem by145 : bytesOf Go.Proofs.Tryz.prog 145 = some 32 := by kernel_rfl
theorem ag145 : aggOf Go.Proofs.Tryz.prog 145 = some true := by kernel_rfl
theorem is145 : isStruct Go.Proofs.Tryz.prog 145 = true := by kernel_rfl
theorem fo145_0 : fieldOf Go.Proofs.Tryz.prog 145 0 = some (0, 1, false) := by kernel_rfl
theorem fo145_1 : fieldOf Go.Proofs.Tryz.prog 145 1 = some (1, 1, false) := by kernel_rfl
theorem fo145_2 : fieldOf Go.Proofs.Tryz.prog 145 2 = some (2, 2, true) := by kernel_rfl
theorem gu145 : Go.Proofs.Tryz.prog.eqGuardType Go.Proofs.Tryz.prog.depth 145 = false := by kernel_rfl
theorem fe145 : flatEq Go.Proofs.Tryz.prog 12 145 = some [.i, .i, .b, .i] := by kernel_rfl
theorem un95 : Go.Proofs.Tryz.prog.underlying 95 = some (.slice 145) := by kernel_rfl
theorem el3n : elemOf Go.Proofs.Tryz.prog 3 = none := by kernel_rfl
theorem sz187 : szOf Go.Proofs.Tryz.prog 187 = some 1 := by kernel_rfl
theorem ki187 : kinds Go.Proofs.Tryz.prog 12 187 = some [some 1] := by kernel_rfl
theorem ze187 : zeroOf Go.Proofs.Tryz.prog 187 = some [.s true 1 []] := by kernel_rfl
theorem by187 : bytesOf Go.Proofs.Tryz.prog 187 = some 24 := by kernel_rfl
theorem ag187 : aggOf Go.Proofs.Tryz.prog 187 = some false := by kernel_rfl
theorem el187 : elemOf Go.Proofs.Tryz.prog 187 = some 23 := by kernel_rfl
theorem un187 : Go.Proofs.Tryz.prog.underlying 187 = some (.slice 23) := by kernel_rfl
theorem sz53 : szOf Go.Proofs.Tryz.prog 53 = some 6 := by kernel_rfl
theorem ki53 : kinds Go.Proofs.Tryz.prog 12 53 = some [none, none, none, none, none, none] := by kernel_rfl
theorem ze53 : zeroOf Go.Proofs.Tryz.prog 53 = some [.v (vi 0), .v (vi 0), .v (vi 0), .v (vi 0), .v (vi 0), .v (vi 0)] := by kernel_rfl
theorem by53 : bytesOf Go.Proofs.Tryz.prog 53 = some 48 := by kernel_rfl
theorem ag53 : aggOf Go.Proofs.Tryz.prog 53 = some true := by kernel_rfl
theorem is53 : isStruct Go.Proofs.Tryz.prog 53 = true := by kernel_rfl
theorem fo53_0 : fieldOf Go.Proofs.Tryz.prog 53 0 = some (0, 1, false) := by kernel_rfl
theorem fo53_1 : fieldOf Go.Proofs.Tryz.prog 53 1 = some (1, 1, false) := by kernel_rfl
theorem fo53_2 : fieldOf Go.Proofs.Tryz.prog 53 2 = some (2, 1, false) := by kernel_rfl
theorem fo53_3 : fieldOf Go.Proofs.Tryz.prog 53 3 = some (3, 1, false) := by kernel_rfl
theorem fo53_4 : fieldOf Go.Proofs.Tryz.prog 53 4 = some (4, 1, false) := by kernel_rfl
theorem fo53_5 : fieldOf Go.Proofs.Tryz.prog 53 5 = some (5, 1, false) := by kernel_rfl
theorem gu53 : Go.Proofs.Tryz.prog.eqGuardType Go.Proofs.Tryz.prog.depth 53 = false := by kernel_rfl
theorem fe53 : flatEq Go.Proofs.Tryz.prog 12 53 = some [.i, .i, .i, .i, .i, .i] := by kernel_rfl
theorem sz174 : szOf Go.Proofs.Tryz.prog 174 = some 7 := by kernel_rfl
theorem ki174 : kinds Go.Proofs.Tryz.prog 12 174 = some [none, none, none, none, none, none, none] := by kernel_rfl
theorem ze174 : zeroOf Go.Proofs.Tryz.prog 174 = some [.v (vi 0), .v (vi 0), .v (vi 0), .v (vi 0), .v (vi 0), .v (vi 0), .v (vi 0)] := by kernel_rfl
theorem by174 : bytesOf Go.Proofs.Tryz.prog 174 = some 56 := by kernel_rfl
theorem ag174 : aggOf Go.Proofs.Tryz.prog 174 = some true := by kernel_rfl
theorem is174 : isStruct Go.Proofs.Tryz.prog 174 = true := by kernel_rfl
theorem fo174_0 : fieldOf Go.Proofs.Tryz.prog 174 0 = some (0, 1, false) := by kernel_rfl
theorem fo174_1 : fieldOf Go.Proofs.Tryz.prog 174 1 = some (1, 6, true) := by kernel_rfl
theorem gu174 : Go.Proofs.Tryz.prog.eqGuardType Go.Proofs.Tryz.prog.depth 174 = false := by kernel_rfl
theorem fe174 : flatEq Go.Proofs.Tryz.prog 12 174 = some [.i, .i, .i, .i, .i, .i, .i] := by kernel_rfl
theorem sz124 : szOf Go.Proofs.Tryz.prog 124 = some 3 := by kernel_rfl
theorem ki124 : kinds Go.Proofs.Tryz.prog 12 124 = some [none, none, none] := by kernel_rfl
theorem ze124 : zeroOf Go.Proofs.Tryz.prog 124 = some [.v (vi 0), .v (vi 0), .v (vi 0)] := by kernel_rfl
theorem by124 : bytesOf Go.Proofs.Tryz.prog 124 = some 24 := by kernel_rfl
theorem ag124 : aggOf Go.Proofs.Tryz.prog 124 = some true := by kernel_rfl
theorem is124 : isStruct Go.Proofs.Tryz.prog 124 = true := by kernel_rfl
theorem fo124_0 : fieldOf Go.Proofs.Tryz.prog 124 0 = some (0, 1, false) := by kernel_rfl
theorem fo124_1 : fieldOf Go.Proofs.Tryz.prog 124 1 = some (1, 1, false) := by kernel_rfl
theorem fo124_2 : fieldOf Go.Proofs.Tryz.prog 124 2 = some (2, 1, false) := by kernel_rfl
theorem gu124 : Go.Proofs.Tryz.prog.eqGuardType Go.Proofs.Tryz.prog.depth 124 = false := by kernel_rfl
theorem fe124 : flatEq Go.Proofs.Tryz.prog 12 124 = some [.i, .i, .i] := by kernel_rfl
theorem sz28 : szOf Go.Proofs.Tryz.prog 28 = some 3 := by kernel_rfl
theorem ki28 : kinds Go.Proofs.Tryz.prog 12 28 = some [none, none, none] := by kernel_rfl
theorem ze28 : zeroOf Go.Proofs.Tryz.prog 28 = some [.v (vi 0), .v (vi 0), .v (vi 0)] := by kernel_rfl
theorem by28 : bytesOf Go.Proofs.Tryz.prog 28 = some 24 := by kernel_rfl
theorem ag28 : aggOf Go.Proofs.Tryz.prog 28 = some true := by kernel_rfl
theorem is28 : isStruct Go.Proofs.Tryz.prog 28 = true := by kernel_rfl
theorem fo28_0 : fieldOf Go.Proofs.Tryz.prog 28 0 = some (0, 1, false) := by kernel_rfl
theorem fo28_1 : fieldOf Go.Proofs.Tryz.prog 28 1 = some (1, 1, false) := by kernel_rfl
theorem fo28_2 : fieldOf Go.Proofs.Tryz.prog 28 2 = some (2, 1, false) := by kernel_rfl
theorem gu28 : Go.Proofs.Tryz.prog.eqGuardType Go.Proofs.Tryz.prog.depth 28 = false := by kernel_rfl
theorem fe28 : flatEq Go.Proofs.Tryz.prog 12 28 = some [.i, .i, .i] := by kernel_rfl
theorem sz111 : szOf Go.Proofs.Tryz.prog 111 = some 1 := by kernel_rfl
theorem ki111 : kinds Go.Proofs.Tryz.prog 12 111 = some [some 7] := by kernel_rfl
theorem ze111 : zeroOf Go.Proofs.Tryz.prog 111 = some [.s true 7 []] := by kernel_rfl
theorem by111 : bytesOf Go.Proofs.Tryz.prog 111 = some 24 := by kernel_rfl
theorem ag111 : aggOf Go.Proofs.Tryz.prog 111 = some false := by kernel_rfl
theorem el111 : elemOf Go.Proofs.Tryz.prog 111 = some 174 := by kernel_rfl
theorem un111 : Go.Proofs.Tryz.prog.underlying 111 = some (.slice 174) := by kernel_rfl
theorem sz29 : szOf Go.Proofs.Tryz.prog 29 = some 1 := by kernel_rfl
theorem ki29 : kinds Go.Proofs.Tryz.prog 12 29 = some [some 3] := by kernel_rfl
theorem ze29 : zeroOf Go.Proofs.Tryz.prog 29 = some [.s true 3 []] := by kernel_rfl
theorem by29 : bytesOf Go.Proofs.Tryz.prog 29 = some 24 := by kernel_rfl
theorem ag29 : aggOf Go.Proofs.Tryz.prog 29 = some false := by kernel_rfl
theorem el29 : elemOf Go.Proofs.Tryz.prog 29 = some 124 := by kernel_rfl
theorem un29 : Go.Proofs.Tryz.prog.underlying 29 = some (.slice 124) := by kernel_rfl
theorem sz110 : szOf Go.Proofs.Tryz.prog 110 = some 4 := by kernel_rfl
theorem ki110 : kinds Go.Proofs.Tryz.prog 12 110 = some [none, none, some 1, some 1] := by kernel_rfl
theorem ze110 : zeroOf Go.Proofs.Tryz.prog 110 = some [.v (vi 0), .v (vi 0), .s true 1 [], .s true 1 []] := by kernel_rfl
theorem by110 : bytesOf Go.Proofs.Tryz.prog 110 = some 64 := by kernel_rfl
theorem ag110 : aggOf Go.Proofs.Tryz.prog 110 = some true := by kernel_rfl
theorem is110 : isStruct Go.Proofs.Tryz.prog 110 = true := by kernel_rfl
theorem fo110_0 : fieldOf Go.Proofs.Tryz.prog 110 0 = some (0, 1, false) := by kernel_rfl
theorem fo110_1 : fieldOf Go.Proofs.Tryz.prog 110 1 = some (1, 1, false) := by kernel_rfl
theorem fo110_2 : fieldOf Go.Proofs.Tryz.prog 110 2 = some (2, 1, false) := by kernel_rfl
theorem fo110_3 : fieldOf Go.Proofs.Tryz.prog 110 3 = some (3, 1, false) := by kernel_rfl
theorem sz24 : szOf Go.Proofs.Tryz.prog 24 = some 1 := by kernel_rfl
theorem ki24 : kinds Go.Proofs.Tryz.prog 12 24 = some [some 4] := by kernel_rfl
theorem ze24 : zeroOf Go.Proofs.Tryz.prog 24 = some [.s true 4 []] := by kernel_rfl
theorem by24 : bytesOf Go.Proofs.Tryz.prog 24 = some 24 := by kernel_rfl
theorem ag24 : aggOf Go.Proofs.Tryz.prog 24 = some false := by kernel_rfl
theorem el24 : elemOf Go.Proofs.Tryz.prog 24 = some 110 := by kernel_rfl
theorem un24 : Go.Proofs.Tryz.prog.underlying 24 = some (.slice 110) := by kernel_rfl
theorem sz26 : szOf Go.Proofs.Tryz.prog 26 = some 2 := by kernel_rfl
theorem ki26 : kinds Go.Proofs.Tryz.prog 12 26 = some [some 4, none] := by kernel_rfl
theorem ze26 : zeroOf Go.Proofs.Tryz.prog 26 = some [.s true 4 [], .v (vi 0)] := by kernel_rfl
theorem by26 : bytesOf Go.Proofs.Tryz.prog 26 = some 32 := by kernel_rfl
theorem ag26 : aggOf Go.Proofs.Tryz.prog 26 = some true := by kernel_rfl
theorem is26 : isStruct Go.Proofs.Tryz.prog 26 = true := by kernel_rfl
theorem fo26_0 : fieldOf Go.Proofs.Tryz.prog 26 0 = some (0, 1, false) := by kernel_rfl
theorem fo26_1 : fieldOf Go.Proofs.Tryz.prog 26 1 = some (1, 1, false) := by kernel_rfl
theorem sz113 : szOf Go.Proofs.Tryz.prog 113 = some 12 := by kernel_rfl
theorem ki113 : kinds Go.Proofs.Tryz.prog 12 113 = some [none, none, none, none, none, none, some 1, some 1, none, some 7, none, some 7] := by kernel_rfl
theorem ze113 : zeroOf Go.Proofs.Tryz.prog 113 = some [.v (.bool false), .v (.bool false), .v (vi 0), .v (vi 0), .v (vi 0), .v (vi 0), .s true 1 [], .s true 1 [], .v (vi 0), .s true 7 [], .v (vi 0), .s true 7 []] := by kernel_rfl
theorem by113 : bytesOf Go.Proofs.Tryz.prog 113 = some 152 := by kernel_rfl
theorem ag113 : aggOf Go.Proofs.Tryz.prog 113 = some true := by kernel_rfl
theorem is113 : isStruct Go.Proofs.Tryz.prog 113 = true := by kernel_rfl
theorem fo113_0 : fieldOf Go.Proofs.Tryz.prog 113 0 = some (0, 1, false) := by kernel_rfl
theorem fo113_1 : fieldOf Go.Proofs.Tryz.prog 113 1 = some (1, 1, false) := by kernel_rfl
theorem fo113_2 : fieldOf Go.Proofs.Tryz.prog 113 2 = some (2, 1, false) := by kernel_rfl
theorem fo113_3 : fieldOf Go.Proofs.Tryz.prog 113 3 = some (3, 1, false) := by kernel_rfl
theorem fo113_4 : fieldOf Go.Proofs.Tryz.prog 113 4 = some (4, 4, true) := by kernel_rfl
theorem fo113_5 : fieldOf Go.Proofs.Tryz.prog 113 5 = some (8, 1, false) := by kernel_rfl
theorem fo113_6 : fieldOf Go.Proofs.Tryz.prog 113 6 = some (9, 1, false) := by kernel_rfl
theorem fo113_7 : fieldOf Go.Proofs.Tryz.prog 113 7 = some (10, 1, false) := by kernel_rfl
theorem fo113_8 : fieldOf Go.Proofs.Tryz.prog 113 8 = some (11, 1, false) := by kernel_rfl
theorem sz22 : szOf Go.Proofs.Tryz.prog 22 = some 1 := by kernel_rfl
theorem ki22 : kinds Go.Proofs.Tryz.prog 12 22 = some [some 12] := by kernel_rfl
theorem ze22 : zeroOf Go.Proofs.Tryz.prog 22 = some [.s true 12 []] := by kernel_rfl
theorem by22 : bytesOf Go.Proofs.Tryz.prog 22 = some 24 := by kernel_rfl
theorem ag22 : aggOf Go.Proofs.Tryz.prog 22 = some false := by kernel_rfl
theorem el22 : elemOf Go.Proofs.Tryz.prog 22 = some 113 := by kernel_rfl
theorem un22 : Go.Proofs.Tryz.prog.underlying 22 = some (.slice 113) := by kernel_rfl
theorem sz31 : szOf Go.Proofs.Tryz.prog 31 = some 10 := by kernel_rfl
theorem ki31 : kinds Go.Proofs.Tryz.prog 12 31 = some [none, some 12, some 1, some 4, none, none, none, none, none, some 3] := by kernel_rfl
theorem ze31 : zeroOf Go.Proofs.Tryz.prog 31 = some [.v (vi 0), .s true 12 [], .s true 1 [], .s true 4 [], .v (vi 0), .v (vi 0), .v (vi 0), .v (vi 0), .v (vi 0), .s true 3 []] := by kernel_rfl
theorem by31 : bytesOf Go.Proofs.Tryz.prog 31 = some 144 := by kernel_rfl
theorem ag31 : aggOf Go.Proofs.Tryz.prog 31 = some true := by kernel_rfl
theorem is31 : isStruct Go.Proofs.Tryz.prog 31 = true := by kernel_rfl
theorem fo31_0 : fieldOf Go.Proofs.Tryz.prog 31 0 = some (0, 1, false) := by kernel_rfl
theorem fo31_1 : fieldOf Go.Proofs.Tryz.prog 31 1 = some (1, 1, false) := by kernel_rfl
theorem fo31_2 : fieldOf Go.Proofs.Tryz.prog 31 2 = some (2, 1, false) := by kernel_rfl
theorem fo31_3 : fieldOf Go.Proofs.Tryz.prog 31 3 = some (3, 2, true) := by kernel_rfl
theorem fo31_4 : fieldOf Go.Proofs.Tryz.prog 31 4 = some (5, 1, false) := by kernel_rfl
theorem fo31_5 : fieldOf Go.Proofs.Tryz.prog 31 5 = some (6, 3, true) := by kernel_rfl
theorem fo31_6 : fieldOf Go.Proofs.Tryz.prog 31 6 = some (9, 1, false) := by kernel_rfl
theorem sz34 : szOf Go.Proofs.Tryz.prog 34 = some 2 := by kernel_rfl
theorem ki34 : kinds Go.Proofs.Tryz.prog 12 34 = some [none, none] := by kernel_rfl
theorem ze34 : zeroOf Go.Proofs.Tryz.prog 34 = some [.v (.bool false), .v (vi 0)] := by kernel_rfl
theorem by34 : bytesOf Go.Proofs.Tryz.prog 34 = some 16 := by kernel_rfl
theorem ag34 : aggOf Go.Proofs.Tryz.prog 34 = some true := by kernel_rfl
theorem is34 : isStruct Go.Proofs.Tryz.prog 34 = true := by kernel_rfl
theorem fo34_0 : fieldOf Go.Proofs.Tryz.prog 34 0 = some (0, 1, false) := by kernel_rfl
theorem fo34_1 : fieldOf Go.Proofs.Tryz.prog 34 1 = some (1, 1, false) := by kernel_rfl
theorem gu34 : Go.Proofs.Tryz.prog.eqGuardType Go.Proofs.Tryz.prog.depth 34 = false := by kernel_rfl
theorem fe34 : flatEq Go.Proofs.Tryz.prog 12 34 = some [.b, .i] := by kernel_rfl
theorem sz36 : szOf Go.Proofs.Tryz.prog 36 = some 4 := by kernel_rfl
theorem ki36 : kinds Go.Proofs.Tryz.prog 12 36 = some [none, none, none, none] := by kernel_rfl
theorem ze36 : zeroOf Go.Proofs.Tryz.prog 36 = some [.v (vi 0), .v (.bool false), .v (vi 0), .v (vi 0)] := by kernel_rfl
theorem by36 : bytesOf Go.Proofs.Tryz.prog 36 = some 32 := by kernel_rfl
theorem ag36 : aggOf Go.Proofs.Tryz.prog 36 = some true := by kernel_rfl
theorem is36 : isStruct Go.Proofs.Tryz.prog 36 = true := by kernel_rfl
theorem fo36_0 : fieldOf Go.Proofs.Tryz.prog 36 0 = some (0, 1, false) := by kernel_rfl
theorem fo36_1 : fieldOf Go.Proofs.Tryz.prog 36 1 = some (1, 2, true) := by kernel_rfl
theorem fo36_2 : fieldOf Go.Proofs.Tryz.prog 36 2 = some (3, 1, false) := by kernel_rfl
theorem gu36 : Go.Proofs.Tryz.prog.eqGuardType Go.Proofs.Tryz.prog.depth 36 = false := by kernel_rfl
theorem fe36 : flatEq Go.Proofs.Tryz.prog 12 36 = some [.i, .b, .i, .i] := by kernel_rfl
theorem un9 : Go.Proofs.Tryz.prog.underlying 9 = some .string := by kernel_rfl
theorem eln9 : elemOf Go.Proofs.Tryz.prog 9 = none := by kernel_rfl
theorem un5 : Go.Proofs.Tryz.prog.underlying 5 = some (.int .u8) := by kernel_rfl
theorem ki5 : kinds Go.Proofs.Tryz.prog 12 5 = some [none] := by kernel_rfl
theorem sz5 : szOf Go.Proofs.Tryz.prog 5 = some 1 := by kernel_rfl
theorem ze5 : zeroOf Go.Proofs.Tryz.prog 5 = some [.v (.int .u8 0)] := by kernel_rfl
theorem ki9 : kinds Go.Proofs.Tryz.prog 12 9 = some [none] := by kernel_rfl
theorem sz9 : szOf Go.Proofs.Tryz.prog 9 = some 1 := by kernel_rfl
theorem ze9 : zeroOf Go.Proofs.Tryz.prog 9 = some [.v (.string ⟨#[]⟩)] := by kernel_rfl
theorem by9 : bytesOf Go.Proofs.Tryz.prog 9 = some 16 := by kernel_rfl
theorem ag9 : aggOf Go.Proofs.Tryz.prog 9 = some false := by kernel_rfl
theorem sz97 : szOf Go.Proofs.Tryz.prog 97 = some 2 := by kernel_rfl
theorem ki97 : kinds Go.Proofs.Tryz.prog 12 97 = some [some 1, some 4] := by kernel_rfl
theorem ze97 : zeroOf Go.Proofs.Tryz.prog 97 = some [.s true 1 [], .s true 4 []] := by kernel_rfl
theorem by97 : bytesOf Go.Proofs.Tryz.prog 97 = some 48 := by kernel_rfl
theorem ag97 : aggOf Go.Proofs.Tryz.prog 97 = some true := by kernel_rfl
theorem is97 : isStruct Go.Proofs.Tryz.prog 97 = true := by kernel_rfl
theorem fo97_0 : fieldOf Go.Proofs.Tryz.prog 97 0 = some (0, 1, false) := by kernel_rfl
theorem fo97_1 : fieldOf Go.Proofs.Tryz.prog 97 1 = some (1, 1, false) := by kernel_rfl
attribute [go_sem] sz3 ki3 ze3 by3 ag3 sz4 ki4 ze4 by4 ag4 un4 sz23 ki23 ze23 by23 ag23 el23 un23 sz56 ki56 ze56 by56 ag56 is56 fo56_0 fo56_1 fo56_2 fo56_3 fo56_4 fo56_5 gu56 fe56 sz74 ki74 ze74 by74 ag74 el74 sz94 ki94 ze94 by94 ag94 is94 fo94_0 fo94_1 gu94 fe94 un74 sz73 ki73 ze73 by73 ag73 is73 fo73_0 fo73_1 fo73_2 fo73_3 sz122 ki122 ze122 by122 ag122 is122 fo122_0 fo122_1 fo122_2 gu122 fe122 sz43 ki43 ze43 by43 ag43 el43 un43 sz39 ki39 ze39 by39 ag39 el39 un39 sz41 ki41 ze41 by41 ag41 is41 fo41_0 fo41_1 sz42 ki42 ze42 by42 ag42 is42 fo42_0 fo42_1 fo42_2 gu42 fe42 sz76 ki76 ze76 by76 ag76 is76 fo76_0 fo76_1 fo76_2 fo76_3 fo76_4 fo76_5 fo76_6 fo76_7 fo76_8 sz38 ki38 ze38 by38 ag38 el38 un38 sz45 ki45 ze45 by45 ag45 is45 fo45_0 fo45_1 fo45_2 fo45_3 fo45_4 fo45_5 fo45_6 un191 un202 ki191 ki202 un3 sz95 ki95 ze95 by95 ag95 el95 sz145 ki145 ze145 by145 ag145 is145 fo145_0 fo145_1 fo145_2 gu145 fe145 un95 el3n sz187 ki187 ze187 by187 ag187 el187 un187 sz53 ki53 ze53 by53 ag53 is53 fo53_0 fo53_1 fo53_2 fo53_3 fo53_4 fo53_5 gu53 fe53 sz174 ki174 ze174 by174 ag174 is174 fo174_0 fo174_1 gu174 fe174 sz124 ki124 ze124 by124 ag124 is124 fo124_0 fo124_1 fo124_2 gu124 fe124 sz28 ki28 ze28 by28 ag28 is28 fo28_0 fo28_1 fo28_2 gu28 fe28 sz111 ki111 ze111 by111 ag111 el111 un111 sz29 ki29 ze29 by29 ag29 el29 un29 sz110 ki110 ze110 by110 ag110 is110 fo110_0 fo110_1 fo110_2 fo110_3 sz24 ki24 ze24 by24 ag24 el24 un24 sz26 ki26 ze26 by26 ag26 is26 fo26_0 fo26_1 sz113 ki113 ze113 by113 ag113 is113 fo113_0 fo113_1 fo113_2 fo113_3 fo113_4 fo113_5 fo113_6 fo113_7 fo113_8 sz22 ki22 ze22 by22 ag22 el22 un22 sz31 ki31 ze31 by31 ag31 is31 fo31_0 fo31_1 fo31_2 fo31_3 fo31_4 fo31_5 fo31_6 sz34 ki34 ze34 by34 ag34 is34 fo34_0 fo34_1 gu34 fe34 sz36 ki36 ze36 by36 ag36 is36 fo36_0 fo36_1 fo36_2 gu36 fe36 un9 eln9 un5 ki5 sz5 ze5 ki9 sz9 ze9 by9 ag9 sz97 ki97 ze97 by97 ag97 is97 fo97_0 fo97_1
end Go.Abs
namespace Go.Abs
theorem HFS : (∀ (p : Prop) [Decidable p], (decide p = true) = p) ∧ (∀ (p : Prop) [Decidable p], (decide p = false) = ¬ p) ∧ (∀ b : Bool, ((!b) = true) = (b = false)) ∧ (∀ b : Bool, ((!b) = false) = (b = true)) ∧ (∀ b : Bool, (¬ (b = true)) = (b = false)) ∧ (∀ b : Bool, (¬ (b = false)) = (b = true)) ∧
    (∀ (α : Type) [BEq α] [LawfulBEq α] (a b : α), ((a == b) = true) = (a = b)) ∧ (∀ (α : Type) [BEq α] [LawfulBEq α] (a b : α), ((a == b) = false) = (a ≠ b)) ∧ (∀ (α : Type) [BEq α] [LawfulBEq α] (a b : α), ((a != b) = true) = (a ≠ b)) ∧ (∀ (α : Type) [BEq α] [LawfulBEq α] (a b : α), ((a != b) = false) = (a = b)) ∧
    (∀ a b : Int, (¬ a < b) = (b ≤ a)) ∧ (∀ a b : Int, (¬ a ≤ b) = (b < a)) ∧ (∀ (α : Type) (a b : α), (a ≠ b) = ¬ (a = b)) :=
  ⟨fun _ _ => decide_eq_true_eq, fun _ _ => propext decide_eq_false_iff_not, fun _ => Bool.not_eq_true' _, fun _ => Bool.not_eq_false' _, fun _ => Bool.not_eq_true _, fun _ => Bool.not_eq_false _, fun _ _ _ _ _ => propext beq_iff_eq, fun _ _ _ _ _ => propext beq_eq_false_iff_ne, fun _ _ _ _ _ => propext bne_iff_ne, fun _ _ _ _ _ => propext bne_eq_false_iff_eq, fun _ _ => propext Int.not_lt, fun _ _ => propext Int.not_le, fun _ _ _ => rfl⟩
theorem IJS : (∀ (α : Type) (a b : α) (l m : List α), (a :: l = b :: m) = (a = b ∧ l = m)) ∧ (∀ a b, (A.c a = A.c b) = (a = b)) ∧ (∀ a b, (A.a a = A.a b) = (a = b)) ∧ (∀ x y, (T.v x = T.v y) = (x = y)) ∧ (∀ a b c a' b' c', (T.s a b c = T.s a' b' c') = (a = a' ∧ b = b' ∧ c = c')) ∧ (∀ a b, (Value.bool a = Value.bool b) = (a = b)) ∧ (∀ k m k' m', (Value.int k m = Value.int k' m') = (k = k' ∧ m = m')) ∧ (∀ p : Prop, (p ∧ True) = p) ∧ (∀ p : Prop, (True ∧ p) = p) := by
  refine ⟨?_, ?_, ?_, ?_, ?_, ?_, ?_, ?_, ?_⟩ <;> intros <;> simp
end Go.Abs
