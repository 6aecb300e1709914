/- Facts about the program's types. No condition. -/
import Derived.Test.YtabbjdchnagobaaGreatPlain
import Derived.KernelRfl
import Derived.Test.YtabbjdchnagobaaGreatProg
set_option linter.unusedVariables false
set_option linter.unusedSimpArgs false
set_option linter.unnecessarySimpa false
set_option linter.constructorNameAsVariable false
set_option maxRecDepth 100000
namespace Go.Abs
open Go
theorem sz3 : szOf Go.Proofs.Tryz.prog 3 = some 1 := by kernel_rfl
theorem ki3 : kinds Go.Proofs.Tryz.prog 12 3 = some [none] := by kernel_rfl
theorem ze3 : zeroOf Go.Proofs.Tryz.prog 3 = some [.v (vi 0)] := by kernel_rfl
theorem by3 : bytesOf Go.Proofs.Tryz.prog 3 = some 8 := by kernel_rfl
theorem ag3 : aggOf Go.Proofs.Tryz.prog 3 = some false := by kernel_rfl
theorem sz4 : szOf Go.Proofs.Tryz.prog 4 = some 1 := by kernel_rfl
theorem ki4 : kinds Go.Proofs.Tryz.prog 12 4 = some [none] := by kernel_rfl
theorem ze4 : zeroOf Go.Proofs.Tryz.prog 4 = some [.v (.bool false)] := by kernel_rfl
theorem by4 : bytesOf Go.Proofs.Tryz.prog 4 = some 1 := by kernel_rfl
theorem ag4 : aggOf Go.Proofs.Tryz.prog 4 = some false := by kernel_rfl
theorem un4 : Go.Proofs.Tryz.prog.underlying 4 = some .bool := by kernel_rfl
theorem sz23 : szOf Go.Proofs.Tryz.prog 23 = some 1 := by kernel_rfl
theorem ki23 : kinds Go.Proofs.Tryz.prog 12 23 = some [some 1] := by kernel_rfl
theorem ze23 : zeroOf Go.Proofs.Tryz.prog 23 = some [.s true 1 []] := by kernel_rfl
theorem by23 : bytesOf Go.Proofs.Tryz.prog 23 = some 24 := by kernel_rfl
theorem ag23 : aggOf Go.Proofs.Tryz.prog 23 = some false := by kernel_rfl
theorem el23 : elemOf Go.Proofs.Tryz.prog 23 = some 3 := by kernel_rfl
theorem un23 : Go.Proofs.Tryz.prog.underlying 23 = some (.slice 3) := by kernel_rfl
theorem sz106 : szOf Go.Proofs.Tryz.prog 106 = some 6 := by kernel_rfl
theorem ki106 : kinds Go.Proofs.Tryz.prog 12 106 = some [none, none, none, none, none, none] := by kernel_rfl
theorem ze106 : zeroOf Go.Proofs.Tryz.prog 106 = some [.v (vi 0), .v (vi 0), .v (vi 0), .v (vi 0), .v (vi 0), .v (vi 0)] := by kernel_rfl
theorem by106 : bytesOf Go.Proofs.Tryz.prog 106 = some 48 := by kernel_rfl
theorem ag106 : aggOf Go.Proofs.Tryz.prog 106 = some true := by kernel_rfl
theorem is106 : isStruct Go.Proofs.Tryz.prog 106 = true := by kernel_rfl
theorem fo106_0 : fieldOf Go.Proofs.Tryz.prog 106 0 = some (0, 1, false) := by kernel_rfl
theorem fo106_1 : fieldOf Go.Proofs.Tryz.prog 106 1 = some (1, 1, false) := by kernel_rfl
theorem fo106_2 : fieldOf Go.Proofs.Tryz.prog 106 2 = some (2, 1, false) := by kernel_rfl
theorem fo106_3 : fieldOf Go.Proofs.Tryz.prog 106 3 = some (3, 1, false) := by kernel_rfl
theorem fo106_4 : fieldOf Go.Proofs.Tryz.prog 106 4 = some (4, 1, false) := by kernel_rfl
theorem fo106_5 : fieldOf Go.Proofs.Tryz.prog 106 5 = some (5, 1, false) := by kernel_rfl
theorem gu106 : Go.Proofs.Tryz.prog.eqGuardType Go.Proofs.Tryz.prog.depth 106 = false := by kernel_rfl
theorem fe106 : flatEq Go.Proofs.Tryz.prog 12 106 = some [.i, .i, .i, .i, .i, .i] := by kernel_rfl
theorem sz108 : szOf Go.Proofs.Tryz.prog 108 = some 7 := by kernel_rfl
theorem ki108 : kinds Go.Proofs.Tryz.prog 12 108 = some [none, none, none, none, none, none, none] := by kernel_rfl
theorem ze108 : zeroOf Go.Proofs.Tryz.prog 108 = some [.v (vi 0), .v (vi 0), .v (vi 0), .v (vi 0), .v (vi 0), .v (vi 0), .v (vi 0)] := by kernel_rfl
theorem by108 : bytesOf Go.Proofs.Tryz.prog 108 = some 56 := by kernel_rfl
theorem ag108 : aggOf Go.Proofs.Tryz.prog 108 = some true := by kernel_rfl
theorem is108 : isStruct Go.Proofs.Tryz.prog 108 = true := by kernel_rfl
theorem fo108_0 : fieldOf Go.Proofs.Tryz.prog 108 0 = some (0, 1, false) := by kernel_rfl
theorem fo108_1 : fieldOf Go.Proofs.Tryz.prog 108 1 = some (1, 6, true) := by kernel_rfl
theorem gu108 : Go.Proofs.Tryz.prog.eqGuardType Go.Proofs.Tryz.prog.depth 108 = false := by kernel_rfl
theorem fe108 : flatEq Go.Proofs.Tryz.prog 12 108 = some [.i, .i, .i, .i, .i, .i, .i] := by kernel_rfl
theorem sz63 : szOf Go.Proofs.Tryz.prog 63 = some 1 := by kernel_rfl
theorem ki63 : kinds Go.Proofs.Tryz.prog 12 63 = some [some 7] := by kernel_rfl
theorem ze63 : zeroOf Go.Proofs.Tryz.prog 63 = some [.s true 7 []] := by kernel_rfl
theorem by63 : bytesOf Go.Proofs.Tryz.prog 63 = some 24 := by kernel_rfl
theorem ag63 : aggOf Go.Proofs.Tryz.prog 63 = some false := by kernel_rfl
theorem el63 : elemOf Go.Proofs.Tryz.prog 63 = some 108 := by kernel_rfl
theorem un63 : Go.Proofs.Tryz.prog.underlying 63 = some (.slice 108) := by kernel_rfl
theorem sz62 : szOf Go.Proofs.Tryz.prog 62 = some 4 := by kernel_rfl
theorem ki62 : kinds Go.Proofs.Tryz.prog 12 62 = some [none, none, some 1, some 1] := by kernel_rfl
theorem ze62 : zeroOf Go.Proofs.Tryz.prog 62 = some [.v (vi 0), .v (vi 0), .s true 1 [], .s true 1 []] := by kernel_rfl
theorem by62 : bytesOf Go.Proofs.Tryz.prog 62 = some 64 := by kernel_rfl
theorem ag62 : aggOf Go.Proofs.Tryz.prog 62 = some true := by kernel_rfl
theorem is62 : isStruct Go.Proofs.Tryz.prog 62 = true := by kernel_rfl
theorem fo62_0 : fieldOf Go.Proofs.Tryz.prog 62 0 = some (0, 1, false) := by kernel_rfl
theorem fo62_1 : fieldOf Go.Proofs.Tryz.prog 62 1 = some (1, 1, false) := by kernel_rfl
theorem fo62_2 : fieldOf Go.Proofs.Tryz.prog 62 2 = some (2, 1, false) := by kernel_rfl
theorem fo62_3 : fieldOf Go.Proofs.Tryz.prog 62 3 = some (3, 1, false) := by kernel_rfl
theorem sz39 : szOf Go.Proofs.Tryz.prog 39 = some 1 := by kernel_rfl
theorem ki39 : kinds Go.Proofs.Tryz.prog 12 39 = some [some 3] := by kernel_rfl
theorem ze39 : zeroOf Go.Proofs.Tryz.prog 39 = some [.s true 3 []] := by kernel_rfl
theorem by39 : bytesOf Go.Proofs.Tryz.prog 39 = some 24 := by kernel_rfl
theorem ag39 : aggOf Go.Proofs.Tryz.prog 39 = some false := by kernel_rfl
theorem el39 : elemOf Go.Proofs.Tryz.prog 39 = some 103 := by kernel_rfl
theorem sz103 : szOf Go.Proofs.Tryz.prog 103 = some 3 := by kernel_rfl
theorem ki103 : kinds Go.Proofs.Tryz.prog 12 103 = some [none, none, none] := by kernel_rfl
theorem ze103 : zeroOf Go.Proofs.Tryz.prog 103 = some [.v (vi 0), .v (vi 0), .v (vi 0)] := by kernel_rfl
theorem by103 : bytesOf Go.Proofs.Tryz.prog 103 = some 24 := by kernel_rfl
theorem ag103 : aggOf Go.Proofs.Tryz.prog 103 = some true := by kernel_rfl
theorem is103 : isStruct Go.Proofs.Tryz.prog 103 = true := by kernel_rfl
theorem fo103_0 : fieldOf Go.Proofs.Tryz.prog 103 0 = some (0, 1, false) := by kernel_rfl
theorem fo103_1 : fieldOf Go.Proofs.Tryz.prog 103 1 = some (1, 1, false) := by kernel_rfl
theorem fo103_2 : fieldOf Go.Proofs.Tryz.prog 103 2 = some (2, 1, false) := by kernel_rfl
theorem gu103 : Go.Proofs.Tryz.prog.eqGuardType Go.Proofs.Tryz.prog.depth 103 = false := by kernel_rfl
theorem fe103 : flatEq Go.Proofs.Tryz.prog 12 103 = some [.i, .i, .i] := by kernel_rfl
theorem un39 : Go.Proofs.Tryz.prog.underlying 39 = some (.slice 103) := by kernel_rfl
theorem sz35 : szOf Go.Proofs.Tryz.prog 35 = some 1 := by kernel_rfl
theorem ki35 : kinds Go.Proofs.Tryz.prog 12 35 = some [some 4] := by kernel_rfl
theorem ze35 : zeroOf Go.Proofs.Tryz.prog 35 = some [.s true 4 []] := by kernel_rfl
theorem by35 : bytesOf Go.Proofs.Tryz.prog 35 = some 24 := by kernel_rfl
theorem ag35 : aggOf Go.Proofs.Tryz.prog 35 = some false := by kernel_rfl
theorem el35 : elemOf Go.Proofs.Tryz.prog 35 = some 62 := by kernel_rfl
theorem un35 : Go.Proofs.Tryz.prog.underlying 35 = some (.slice 62) := by kernel_rfl
theorem sz37 : szOf Go.Proofs.Tryz.prog 37 = some 2 := by kernel_rfl
theorem ki37 : kinds Go.Proofs.Tryz.prog 12 37 = some [some 4, none] := by kernel_rfl
theorem ze37 : zeroOf Go.Proofs.Tryz.prog 37 = some [.s true 4 [], .v (vi 0)] := by kernel_rfl
theorem by37 : bytesOf Go.Proofs.Tryz.prog 37 = some 32 := by kernel_rfl
theorem ag37 : aggOf Go.Proofs.Tryz.prog 37 = some true := by kernel_rfl
theorem is37 : isStruct Go.Proofs.Tryz.prog 37 = true := by kernel_rfl
theorem fo37_0 : fieldOf Go.Proofs.Tryz.prog 37 0 = some (0, 1, false) := by kernel_rfl
theorem fo37_1 : fieldOf Go.Proofs.Tryz.prog 37 1 = some (1, 1, false) := by kernel_rfl
theorem sz38 : szOf Go.Proofs.Tryz.prog 38 = some 3 := by kernel_rfl
theorem ki38 : kinds Go.Proofs.Tryz.prog 12 38 = some [none, none, none] := by kernel_rfl
theorem ze38 : zeroOf Go.Proofs.Tryz.prog 38 = some [.v (vi 0), .v (vi 0), .v (vi 0)] := by kernel_rfl
theorem by38 : bytesOf Go.Proofs.Tryz.prog 38 = some 24 := by kernel_rfl
theorem ag38 : aggOf Go.Proofs.Tryz.prog 38 = some true := by kernel_rfl
theorem is38 : isStruct Go.Proofs.Tryz.prog 38 = true := by kernel_rfl
theorem fo38_0 : fieldOf Go.Proofs.Tryz.prog 38 0 = some (0, 1, false) := by kernel_rfl
theorem fo38_1 : fieldOf Go.Proofs.Tryz.prog 38 1 = some (1, 1, false) := by kernel_rfl
theorem fo38_2 : fieldOf Go.Proofs.Tryz.prog 38 2 = some (2, 1, false) := by kernel_rfl
theorem gu38 : Go.Proofs.Tryz.prog.eqGuardType Go.Proofs.Tryz.prog.depth 38 = false := by kernel_rfl
theorem fe38 : flatEq Go.Proofs.Tryz.prog 12 38 = some [.i, .i, .i] := by kernel_rfl
theorem sz65 : szOf Go.Proofs.Tryz.prog 65 = some 12 := by kernel_rfl
theorem ki65 : kinds Go.Proofs.Tryz.prog 12 65 = some [none, none, none, none, none, none, some 1, some 1, none, some 7, none, some 7] := by kernel_rfl
theorem ze65 : zeroOf Go.Proofs.Tryz.prog 65 = some [.v (.bool false), .v (.bool false), .v (vi 0), .v (vi 0), .v (vi 0), .v (vi 0), .s true 1 [], .s true 1 [], .v (vi 0), .s true 7 [], .v (vi 0), .s true 7 []] := by kernel_rfl
theorem by65 : bytesOf Go.Proofs.Tryz.prog 65 = some 152 := by kernel_rfl
theorem ag65 : aggOf Go.Proofs.Tryz.prog 65 = some true := by kernel_rfl
theorem is65 : isStruct Go.Proofs.Tryz.prog 65 = true := by kernel_rfl
theorem fo65_0 : fieldOf Go.Proofs.Tryz.prog 65 0 = some (0, 1, false) := by kernel_rfl
theorem fo65_1 : fieldOf Go.Proofs.Tryz.prog 65 1 = some (1, 1, false) := by kernel_rfl
theorem fo65_2 : fieldOf Go.Proofs.Tryz.prog 65 2 = some (2, 1, false) := by kernel_rfl
theorem fo65_3 : fieldOf Go.Proofs.Tryz.prog 65 3 = some (3, 1, false) := by kernel_rfl
theorem fo65_4 : fieldOf Go.Proofs.Tryz.prog 65 4 = some (4, 4, true) := by kernel_rfl
theorem fo65_5 : fieldOf Go.Proofs.Tryz.prog 65 5 = some (8, 1, false) := by kernel_rfl
theorem fo65_6 : fieldOf Go.Proofs.Tryz.prog 65 6 = some (9, 1, false) := by kernel_rfl
theorem fo65_7 : fieldOf Go.Proofs.Tryz.prog 65 7 = some (10, 1, false) := by kernel_rfl
theorem fo65_8 : fieldOf Go.Proofs.Tryz.prog 65 8 = some (11, 1, false) := by kernel_rfl
theorem sz34 : szOf Go.Proofs.Tryz.prog 34 = some 1 := by kernel_rfl
theorem ki34 : kinds Go.Proofs.Tryz.prog 12 34 = some [some 12] := by kernel_rfl
theorem ze34 : zeroOf Go.Proofs.Tryz.prog 34 = some [.s true 12 []] := by kernel_rfl
theorem by34 : bytesOf Go.Proofs.Tryz.prog 34 = some 24 := by kernel_rfl
theorem ag34 : aggOf Go.Proofs.Tryz.prog 34 = some false := by kernel_rfl
theorem el34 : elemOf Go.Proofs.Tryz.prog 34 = some 65 := by kernel_rfl
theorem un34 : Go.Proofs.Tryz.prog.underlying 34 = some (.slice 65) := by kernel_rfl
theorem sz41 : szOf Go.Proofs.Tryz.prog 41 = some 10 := by kernel_rfl
theorem ki41 : kinds Go.Proofs.Tryz.prog 12 41 = some [none, some 12, some 1, some 4, none, none, none, none, none, some 3] := by kernel_rfl
theorem ze41 : zeroOf Go.Proofs.Tryz.prog 41 = some [.v (vi 0), .s true 12 [], .s true 1 [], .s true 4 [], .v (vi 0), .v (vi 0), .v (vi 0), .v (vi 0), .v (vi 0), .s true 3 []] := by kernel_rfl
theorem by41 : bytesOf Go.Proofs.Tryz.prog 41 = some 144 := by kernel_rfl
theorem ag41 : aggOf Go.Proofs.Tryz.prog 41 = some true := by kernel_rfl
theorem is41 : isStruct Go.Proofs.Tryz.prog 41 = true := by kernel_rfl
theorem fo41_0 : fieldOf Go.Proofs.Tryz.prog 41 0 = some (0, 1, false) := by kernel_rfl
theorem fo41_1 : fieldOf Go.Proofs.Tryz.prog 41 1 = some (1, 1, false) := by kernel_rfl
theorem fo41_2 : fieldOf Go.Proofs.Tryz.prog 41 2 = some (2, 1, false) := by kernel_rfl
theorem fo41_3 : fieldOf Go.Proofs.Tryz.prog 41 3 = some (3, 2, true) := by kernel_rfl
theorem fo41_4 : fieldOf Go.Proofs.Tryz.prog 41 4 = some (5, 1, false) := by kernel_rfl
theorem fo41_5 : fieldOf Go.Proofs.Tryz.prog 41 5 = some (6, 3, true) := by kernel_rfl
theorem fo41_6 : fieldOf Go.Proofs.Tryz.prog 41 6 = some (9, 1, false) := by kernel_rfl
theorem un145 : Go.Proofs.Tryz.prog.underlying 145 = some (.int .u64) := by kernel_rfl
theorem un157 : Go.Proofs.Tryz.prog.underlying 157 = some (.int .u64) := by kernel_rfl
theorem ki145 : kinds Go.Proofs.Tryz.prog 12 145 = some [none] := by kernel_rfl
theorem ki157 : kinds Go.Proofs.Tryz.prog 12 157 = some [none] := by kernel_rfl
theorem un3 : Go.Proofs.Tryz.prog.underlying 3 = some (.int .i64) := by kernel_rfl
theorem el3n : elemOf Go.Proofs.Tryz.prog 3 = none := by kernel_rfl
theorem sz139 : szOf Go.Proofs.Tryz.prog 139 = some 1 := by kernel_rfl
theorem ki139 : kinds Go.Proofs.Tryz.prog 12 139 = some [some 1] := by kernel_rfl
theorem ze139 : zeroOf Go.Proofs.Tryz.prog 139 = some [.s true 1 []] := by kernel_rfl
theorem by139 : bytesOf Go.Proofs.Tryz.prog 139 = some 24 := by kernel_rfl
theorem ag139 : aggOf Go.Proofs.Tryz.prog 139 = some false := by kernel_rfl
theorem el139 : elemOf Go.Proofs.Tryz.prog 139 = some 23 := by kernel_rfl
theorem un139 : Go.Proofs.Tryz.prog.underlying 139 = some (.slice 23) := by kernel_rfl
theorem sz134 : szOf Go.Proofs.Tryz.prog 134 = some 6 := by kernel_rfl
theorem ki134 : kinds Go.Proofs.Tryz.prog 12 134 = some [none, none, none, none, none, none] := by kernel_rfl
theorem ze134 : zeroOf Go.Proofs.Tryz.prog 134 = some [.v (vi 0), .v (vi 0), .v (vi 0), .v (vi 0), .v (vi 0), .v (vi 0)] := by kernel_rfl
theorem by134 : bytesOf Go.Proofs.Tryz.prog 134 = some 48 := by kernel_rfl
theorem ag134 : aggOf Go.Proofs.Tryz.prog 134 = some true := by kernel_rfl
theorem is134 : isStruct Go.Proofs.Tryz.prog 134 = true := by kernel_rfl
theorem fo134_0 : fieldOf Go.Proofs.Tryz.prog 134 0 = some (0, 1, false) := by kernel_rfl
theorem fo134_1 : fieldOf Go.Proofs.Tryz.prog 134 1 = some (1, 1, false) := by kernel_rfl
theorem fo134_2 : fieldOf Go.Proofs.Tryz.prog 134 2 = some (2, 1, false) := by kernel_rfl
theorem fo134_3 : fieldOf Go.Proofs.Tryz.prog 134 3 = some (3, 1, false) := by kernel_rfl
theorem fo134_4 : fieldOf Go.Proofs.Tryz.prog 134 4 = some (4, 1, false) := by kernel_rfl
theorem fo134_5 : fieldOf Go.Proofs.Tryz.prog 134 5 = some (5, 1, false) := by kernel_rfl
theorem gu134 : Go.Proofs.Tryz.prog.eqGuardType Go.Proofs.Tryz.prog.depth 134 = false := by kernel_rfl
theorem fe134 : flatEq Go.Proofs.Tryz.prog 12 134 = some [.i, .i, .i, .i, .i, .i] := by kernel_rfl
theorem sz136 : szOf Go.Proofs.Tryz.prog 136 = some 7 := by kernel_rfl
theorem ki136 : kinds Go.Proofs.Tryz.prog 12 136 = some [none, none, none, none, none, none, none] := by kernel_rfl
theorem ze136 : zeroOf Go.Proofs.Tryz.prog 136 = some [.v (vi 0), .v (vi 0), .v (vi 0), .v (vi 0), .v (vi 0), .v (vi 0), .v (vi 0)] := by kernel_rfl
theorem by136 : bytesOf Go.Proofs.Tryz.prog 136 = some 56 := by kernel_rfl
theorem ag136 : aggOf Go.Proofs.Tryz.prog 136 = some true := by kernel_rfl
theorem is136 : isStruct Go.Proofs.Tryz.prog 136 = true := by kernel_rfl
theorem fo136_0 : fieldOf Go.Proofs.Tryz.prog 136 0 = some (0, 1, false) := by kernel_rfl
theorem fo136_1 : fieldOf Go.Proofs.Tryz.prog 136 1 = some (1, 6, true) := by kernel_rfl
theorem gu136 : Go.Proofs.Tryz.prog.eqGuardType Go.Proofs.Tryz.prog.depth 136 = false := by kernel_rfl
theorem fe136 : flatEq Go.Proofs.Tryz.prog 12 136 = some [.i, .i, .i, .i, .i, .i, .i] := by kernel_rfl
theorem sz113 : szOf Go.Proofs.Tryz.prog 113 = some 3 := by kernel_rfl
theorem ki113 : kinds Go.Proofs.Tryz.prog 12 113 = some [none, none, none] := by kernel_rfl
theorem ze113 : zeroOf Go.Proofs.Tryz.prog 113 = some [.v (vi 0), .v (vi 0), .v (vi 0)] := by kernel_rfl
theorem by113 : bytesOf Go.Proofs.Tryz.prog 113 = some 24 := by kernel_rfl
theorem ag113 : aggOf Go.Proofs.Tryz.prog 113 = some true := by kernel_rfl
theorem is113 : isStruct Go.Proofs.Tryz.prog 113 = true := by kernel_rfl
theorem fo113_0 : fieldOf Go.Proofs.Tryz.prog 113 0 = some (0, 1, false) := by kernel_rfl
theorem fo113_1 : fieldOf Go.Proofs.Tryz.prog 113 1 = some (1, 1, false) := by kernel_rfl
theorem fo113_2 : fieldOf Go.Proofs.Tryz.prog 113 2 = some (2, 1, false) := by kernel_rfl
theorem gu113 : Go.Proofs.Tryz.prog.eqGuardType Go.Proofs.Tryz.prog.depth 113 = false := by kernel_rfl
theorem fe113 : flatEq Go.Proofs.Tryz.prog 12 113 = some [.i, .i, .i] := by kernel_rfl
theorem sz28 : szOf Go.Proofs.Tryz.prog 28 = some 3 := by kernel_rfl
theorem ki28 : kinds Go.Proofs.Tryz.prog 12 28 = some [none, none, none] := by kernel_rfl
theorem ze28 : zeroOf Go.Proofs.Tryz.prog 28 = some [.v (vi 0), .v (vi 0), .v (vi 0)] := by kernel_rfl
theorem by28 : bytesOf Go.Proofs.Tryz.prog 28 = some 24 := by kernel_rfl
theorem ag28 : aggOf Go.Proofs.Tryz.prog 28 = some true := by kernel_rfl
theorem is28 : isStruct Go.Proofs.Tryz.prog 28 = true := by kernel_rfl
theorem fo28_0 : fieldOf Go.Proofs.Tryz.prog 28 0 = some (0, 1, false) := by kernel_rfl
theorem fo28_1 : fieldOf Go.Proofs.Tryz.prog 28 1 = some (1, 1, false) := by kernel_rfl
theorem fo28_2 : fieldOf Go.Proofs.Tryz.prog 28 2 = some (2, 1, false) := by kernel_rfl
theorem gu28 : Go.Proofs.Tryz.prog.eqGuardType Go.Proofs.Tryz.prog.depth 28 = false := by kernel_rfl
theorem fe28 : flatEq Go.Proofs.Tryz.prog 12 28 = some [.i, .i, .i] := by kernel_rfl
theorem sz98 : szOf Go.Proofs.Tryz.prog 98 = some 1 := by kernel_rfl
theorem ki98 : kinds Go.Proofs.Tryz.prog 12 98 = some [some 7] := by kernel_rfl
theorem ze98 : zeroOf Go.Proofs.Tryz.prog 98 = some [.s true 7 []] := by kernel_rfl
theorem by98 : bytesOf Go.Proofs.Tryz.prog 98 = some 24 := by kernel_rfl
theorem ag98 : aggOf Go.Proofs.Tryz.prog 98 = some false := by kernel_rfl
theorem el98 : elemOf Go.Proofs.Tryz.prog 98 = some 136 := by kernel_rfl
theorem un98 : Go.Proofs.Tryz.prog.underlying 98 = some (.slice 136) := by kernel_rfl
theorem sz29 : szOf Go.Proofs.Tryz.prog 29 = some 1 := by kernel_rfl
theorem ki29 : kinds Go.Proofs.Tryz.prog 12 29 = some [some 3] := by kernel_rfl
theorem ze29 : zeroOf Go.Proofs.Tryz.prog 29 = some [.s true 3 []] := by kernel_rfl
theorem by29 : bytesOf Go.Proofs.Tryz.prog 29 = some 24 := by kernel_rfl
theorem ag29 : aggOf Go.Proofs.Tryz.prog 29 = some false := by kernel_rfl
theorem el29 : elemOf Go.Proofs.Tryz.prog 29 = some 113 := by kernel_rfl
theorem un29 : Go.Proofs.Tryz.prog.underlying 29 = some (.slice 113) := by kernel_rfl
theorem sz97 : szOf Go.Proofs.Tryz.prog 97 = some 4 := by kernel_rfl
theorem ki97 : kinds Go.Proofs.Tryz.prog 12 97 = some [none, none, some 1, some 1] := by kernel_rfl
theorem ze97 : zeroOf Go.Proofs.Tryz.prog 97 = some [.v (vi 0), .v (vi 0), .s true 1 [], .s true 1 []] := by kernel_rfl
theorem by97 : bytesOf Go.Proofs.Tryz.prog 97 = some 64 := by kernel_rfl
theorem ag97 : aggOf Go.Proofs.Tryz.prog 97 = some true := by kernel_rfl
theorem is97 : isStruct Go.Proofs.Tryz.prog 97 = true := by kernel_rfl
theorem fo97_0 : fieldOf Go.Proofs.Tryz.prog 97 0 = some (0, 1, false) := by kernel_rfl
theorem fo97_1 : fieldOf Go.Proofs.Tryz.prog 97 1 = some (1, 1, false) := by kernel_rfl
theorem fo97_2 : fieldOf Go.Proofs.Tryz.prog 97 2 = some (2, 1, false) := by kernel_rfl
theorem fo97_3 : fieldOf Go.Proofs.Tryz.prog 97 3 = some (3, 1, false) := by kernel_rfl
theorem sz24 : szOf Go.Proofs.Tryz.prog 24 = some 1 := by kernel_rfl
theorem ki24 : kinds Go.Proofs.Tryz.prog 12 24 = some [some 4] := by kernel_rfl
theorem ze24 : zeroOf Go.Proofs.Tryz.prog 24 = some [.s true 4 []] := by kernel_rfl
theorem by24 : bytesOf Go.Proofs.Tryz.prog 24 = some 24 := by kernel_rfl
theorem ag24 : aggOf Go.Proofs.Tryz.prog 24 = some false := by kernel_rfl
theorem el24 : elemOf Go.Proofs.Tryz.prog 24 = some 97 := by kernel_rfl
theorem un24 : Go.Proofs.Tryz.prog.underlying 24 = some (.slice 97) := by kernel_rfl
theorem sz26 : szOf Go.Proofs.Tryz.prog 26 = some 2 := by kernel_rfl
theorem ki26 : kinds Go.Proofs.Tryz.prog 12 26 = some [some 4, none] := by kernel_rfl
theorem ze26 : zeroOf Go.Proofs.Tryz.prog 26 = some [.s true 4 [], .v (vi 0)] := by kernel_rfl
theorem by26 : bytesOf Go.Proofs.Tryz.prog 26 = some 32 := by kernel_rfl
theorem ag26 : aggOf Go.Proofs.Tryz.prog 26 = some true := by kernel_rfl
theorem is26 : isStruct Go.Proofs.Tryz.prog 26 = true := by kernel_rfl
theorem fo26_0 : fieldOf Go.Proofs.Tryz.prog 26 0 = some (0, 1, false) := by kernel_rfl
theorem fo26_1 : fieldOf Go.Proofs.Tryz.prog 26 1 = some (1, 1, false) := by kernel_rfl
theorem sz100 : szOf Go.Proofs.Tryz.prog 100 = some 12 := by kernel_rfl
theorem ki100 : kinds Go.Proofs.Tryz.prog 12 100 = some [none, none, none, none, none, none, some 1, some 1, none, some 7, none, some 7] := by kernel_rfl
theorem ze100 : zeroOf Go.Proofs.Tryz.prog 100 = some [.v (.bool false), .v (.bool false), .v (vi 0), .v (vi 0), .v (vi 0), .v (vi 0), .s true 1 [], .s true 1 [], .v (vi 0), .s true 7 [], .v (vi 0), .s true 7 []] := by kernel_rfl
theorem by100 : bytesOf Go.Proofs.Tryz.prog 100 = some 152 := by kernel_rfl
theorem ag100 : aggOf Go.Proofs.Tryz.prog 100 = some true := by kernel_rfl
theorem is100 : isStruct Go.Proofs.Tryz.prog 100 = true := by kernel_rfl
theorem fo100_0 : fieldOf Go.Proofs.Tryz.prog 100 0 = some (0, 1, false) := by kernel_rfl
theorem fo100_1 : fieldOf Go.Proofs.Tryz.prog 100 1 = some (1, 1, false) := by kernel_rfl
theorem fo100_2 : fieldOf Go.Proofs.Tryz.prog 100 2 = some (2, 1, false) := by kernel_rfl
theorem fo100_3 : fieldOf Go.Proofs.Tryz.prog 100 3 = some (3, 1, false) := by kernel_rfl
theorem fo100_4 : fieldOf Go.Proofs.Tryz.prog 100 4 = some (4, 4, true) := by kernel_rfl
theorem fo100_5 : fieldOf Go.Proofs.Tryz.prog 100 5 = some (8, 1, false) := by kernel_rfl
theorem fo100_6 : fieldOf Go.Proofs.Tryz.prog 100 6 = some (9, 1, false) := by kernel_rfl
theorem fo100_7 : fieldOf Go.Proofs.Tryz.prog 100 7 = some (10, 1, false) := by kernel_rfl
theorem fo100_8 : fieldOf Go.Proofs.Tryz.prog 100 8 = some (11, 1, false) := by kernel_rfl
theorem sz22 : szOf Go.Proofs.Tryz.prog 22 = some 1 := by kernel_rfl
theorem ki22 : kinds Go.Proofs.Tryz.prog 12 22 = some [some 12] := by kernel_rfl
theorem ze22 : zeroOf Go.Proofs.Tryz.prog 22 = some [.s true 12 []] := by kernel_rfl
theorem by22 : bytesOf Go.Proofs.Tryz.prog 22 = some 24 := by kernel_rfl
theorem ag22 : aggOf Go.Proofs.Tryz.prog 22 = some false := by kernel_rfl
theorem el22 : elemOf Go.Proofs.Tryz.prog 22 = some 100 := by kernel_rfl
theorem un22 : Go.Proofs.Tryz.prog.underlying 22 = some (.slice 100) := by kernel_rfl
theorem sz31 : szOf Go.Proofs.Tryz.prog 31 = some 10 := by kernel_rfl
theorem ki31 : kinds Go.Proofs.Tryz.prog 12 31 = some [none, some 12, some 1, some 4, none, none, none, none, none, some 3] := by kernel_rfl
theorem ze31 : zeroOf Go.Proofs.Tryz.prog 31 = some [.v (vi 0), .s true 12 [], .s true 1 [], .s true 4 [], .v (vi 0), .v (vi 0), .v (vi 0), .v (vi 0), .v (vi 0), .s true 3 []] := by kernel_rfl
theorem by31 : bytesOf Go.Proofs.Tryz.prog 31 = some 144 := by kernel_rfl
theorem ag31 : aggOf Go.Proofs.Tryz.prog 31 = some true := by kernel_rfl
theorem is31 : isStruct Go.Proofs.Tryz.prog 31 = true := by kernel_rfl
theorem fo31_0 : fieldOf Go.Proofs.Tryz.prog 31 0 = some (0, 1, false) := by kernel_rfl
theorem fo31_1 : fieldOf Go.Proofs.Tryz.prog 31 1 = some (1, 1, false) := by kernel_rfl
theorem fo31_2 : fieldOf Go.Proofs.Tryz.prog 31 2 = some (2, 1, false) := by kernel_rfl
theorem fo31_3 : fieldOf Go.Proofs.Tryz.prog 31 3 = some (3, 2, true) := by kernel_rfl
theorem fo31_4 : fieldOf Go.Proofs.Tryz.prog 31 4 = some (5, 1, false) := by kernel_rfl
theorem fo31_5 : fieldOf Go.Proofs.Tryz.prog 31 5 = some (6, 3, true) := by kernel_rfl
theorem fo31_6 : fieldOf Go.Proofs.Tryz.prog 31 6 = some (9, 1, false) := by kernel_rfl
attribute [go_sem] sz3 ki3 ze3 by3 ag3 sz4 ki4 ze4 by4 ag4 un4 sz23 ki23 ze23 by23 ag23 el23 un23 sz106 ki106 ze106 by106 ag106 is106 fo106_0 fo106_1 fo106_2 fo106_3 fo106_4 fo106_5 gu106 fe106 sz108 ki108 ze108 by108 ag108 is108 fo108_0 fo108_1 gu108 fe108 sz63 ki63 ze63 by63 ag63 el63 un63 sz62 ki62 ze62 by62 ag62 is62 fo62_0 fo62_1 fo62_2 fo62_3 sz39 ki39 ze39 by39 ag39 el39 sz103 ki103 ze103 by103 ag103 is103 fo103_0 fo103_1 fo103_2 gu103 fe103 un39 sz35 ki35 ze35 by35 ag35 el35 un35 sz37 ki37 ze37 by37 ag37 is37 fo37_0 fo37_1 sz38 ki38 ze38 by38 ag38 is38 fo38_0 fo38_1 fo38_2 gu38 fe38 sz65 ki65 ze65 by65 ag65 is65 fo65_0 fo65_1 fo65_2 fo65_3 fo65_4 fo65_5 fo65_6 fo65_7 fo65_8 sz34 ki34 ze34 by34 ag34 el34 un34 sz41 ki41 ze41 by41 ag41 is41 fo41_0 fo41_1 fo41_2 fo41_3 fo41_4 fo41_5 fo41_6 un145 un157 ki145 ki157 un3 el3n sz139 ki139 ze139 by139 ag139 el139 un139 sz134 ki134 ze134 by134 ag134 is134 fo134_0 fo134_1 fo134_2 fo134_3 fo134_4 fo134_5 gu134 fe134 sz136 ki136 ze136 by136 ag136 is136 fo136_0 fo136_1 gu136 fe136 sz113 ki113 ze113 by113 ag113 is113 fo113_0 fo113_1 fo113_2 gu113 fe113 sz28 ki28 ze28 by28 ag28 is28 fo28_0 fo28_1 fo28_2 gu28 fe28 sz98 ki98 ze98 by98 ag98 el98 un98 sz29 ki29 ze29 by29 ag29 el29 un29 sz97 ki97 ze97 by97 ag97 is97 fo97_0 fo97_1 fo97_2 fo97_3 sz24 ki24 ze24 by24 ag24 el24 un24 sz26 ki26 ze26 by26 ag26 is26 fo26_0 fo26_1 sz100 ki100 ze100 by100 ag100 is100 fo100_0 fo100_1 fo100_2 fo100_3 fo100_4 fo100_5 fo100_6 fo100_7 fo100_8 sz22 ki22 ze22 by22 ag22 el22 un22 sz31 ki31 ze31 by31 ag31 is31 fo31_0 fo31_1 fo31_2 fo31_3 fo31_4 fo31_5 fo31_6
end Go.Abs
