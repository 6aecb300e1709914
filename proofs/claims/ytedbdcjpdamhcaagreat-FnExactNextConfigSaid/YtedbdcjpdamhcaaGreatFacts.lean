/- Facts about the program's types. No condition. -/
import Derived.Test.YtedbdcjpdamhcaaGreatPlain
import Derived.KernelRfl
import Derived.Test.YtedbdcjpdamhcaaGreatProg
set_option linter.unusedVariables false
set_option linter.unusedSimpArgs false
set_option linter.unnecessarySimpa false
set_option linter.constructorNameAsVariable false
set_option maxRecDepth 100000
namespace Go.Abs
open Go
theorem sz3 : szOf Go.Proofs.Tryz.prog 3 = some 1 := by kernel_rfl
theorem ki3 : kinds Go.Proofs.Tryz.prog 12 3 = some [none] := by kernel_rfl
theorem ze3 : zeroOf Go.Proofs.Tryz.prog 3 = some [.v (vi 0)] := by kernel_rfl
theorem by3 : bytesOf Go.Proofs.Tryz.prog 3 = some 8 := by kernel_rfl
theorem ag3 : aggOf Go.Proofs.Tryz.prog 3 = some false := by kernel_rfl
theorem sz4 : szOf Go.Proofs.Tryz.prog 4 = some 1 := by kernel_rfl
theorem ki4 : kinds Go.Proofs.Tryz.prog 12 4 = some [none] := by kernel_rfl
theorem ze4 : zeroOf Go.Proofs.Tryz.prog 4 = some [.v (.bool false)] := by kernel_rfl
theorem by4 : bytesOf Go.Proofs.Tryz.prog 4 = some 1 := by kernel_rfl
theorem ag4 : aggOf Go.Proofs.Tryz.prog 4 = some false := by kernel_rfl
theorem un4 : Go.Proofs.Tryz.prog.underlying 4 = some .bool := by kernel_rfl
theorem sz23 : szOf Go.Proofs.Tryz.prog 23 = some 1 := by kernel_rfl
theorem ki23 : kinds Go.Proofs.Tryz.prog 12 23 = some [some 1] := by kernel_rfl
theorem ze23 : zeroOf Go.Proofs.Tryz.prog 23 = some [.s true 1 []] := by kernel_rfl
theorem by23 : bytesOf Go.Proofs.Tryz.prog 23 = some 24 := by kernel_rfl
theorem ag23 : aggOf Go.Proofs.Tryz.prog 23 = some false := by kernel_rfl
theorem el23 : elemOf Go.Proofs.Tryz.prog 23 = some 3 := by kernel_rfl
theorem un23 : Go.Proofs.Tryz.prog.underlying 23 = some (.slice 3) := by kernel_rfl
theorem sz119 : szOf Go.Proofs.Tryz.prog 119 = some 6 := by kernel_rfl
theorem ki119 : kinds Go.Proofs.Tryz.prog 12 119 = some [none, none, none, none, none, none] := by kernel_rfl
theorem ze119 : zeroOf Go.Proofs.Tryz.prog 119 = some [.v (vi 0), .v (vi 0), .v (vi 0), .v (vi 0), .v (vi 0), .v (vi 0)] := by kernel_rfl
theorem by119 : bytesOf Go.Proofs.Tryz.prog 119 = some 48 := by kernel_rfl
theorem ag119 : aggOf Go.Proofs.Tryz.prog 119 = some true := by kernel_rfl
theorem is119 : isStruct Go.Proofs.Tryz.prog 119 = true := by kernel_rfl
theorem fo119_0 : fieldOf Go.Proofs.Tryz.prog 119 0 = some (0, 1, false) := by kernel_rfl
theorem fo119_1 : fieldOf Go.Proofs.Tryz.prog 119 1 = some (1, 1, false) := by kernel_rfl
theorem fo119_2 : fieldOf Go.Proofs.Tryz.prog 119 2 = some (2, 1, false) := by kernel_rfl
theorem fo119_3 : fieldOf Go.Proofs.Tryz.prog 119 3 = some (3, 1, false) := by kernel_rfl
theorem fo119_4 : fieldOf Go.Proofs.Tryz.prog 119 4 = some (4, 1, false) := by kernel_rfl
theorem fo119_5 : fieldOf Go.Proofs.Tryz.prog 119 5 = some (5, 1, false) := by kernel_rfl
theorem gu119 : Go.Proofs.Tryz.prog.eqGuardType Go.Proofs.Tryz.prog.depth 119 = false := by kernel_rfl
theorem fe119 : flatEq Go.Proofs.Tryz.prog 12 119 = some [.i, .i, .i, .i, .i, .i] := by kernel_rfl
theorem sz121 : szOf Go.Proofs.Tryz.prog 121 = some 7 := by kernel_rfl
theorem ki121 : kinds Go.Proofs.Tryz.prog 12 121 = some [none, none, none, none, none, none, none] := by kernel_rfl
theorem ze121 : zeroOf Go.Proofs.Tryz.prog 121 = some [.v (vi 0), .v (vi 0), .v (vi 0), .v (vi 0), .v (vi 0), .v (vi 0), .v (vi 0)] := by kernel_rfl
theorem by121 : bytesOf Go.Proofs.Tryz.prog 121 = some 56 := by kernel_rfl
theorem ag121 : aggOf Go.Proofs.Tryz.prog 121 = some true := by kernel_rfl
theorem is121 : isStruct Go.Proofs.Tryz.prog 121 = true := by kernel_rfl
theorem fo121_0 : fieldOf Go.Proofs.Tryz.prog 121 0 = some (0, 1, false) := by kernel_rfl
theorem fo121_1 : fieldOf Go.Proofs.Tryz.prog 121 1 = some (1, 6, true) := by kernel_rfl
theorem gu121 : Go.Proofs.Tryz.prog.eqGuardType Go.Proofs.Tryz.prog.depth 121 = false := by kernel_rfl
theorem fe121 : flatEq Go.Proofs.Tryz.prog 12 121 = some [.i, .i, .i, .i, .i, .i, .i] := by kernel_rfl
theorem sz60 : szOf Go.Proofs.Tryz.prog 60 = some 1 := by kernel_rfl
theorem ki60 : kinds Go.Proofs.Tryz.prog 12 60 = some [some 7] := by kernel_rfl
theorem ze60 : zeroOf Go.Proofs.Tryz.prog 60 = some [.s true 7 []] := by kernel_rfl
theorem by60 : bytesOf Go.Proofs.Tryz.prog 60 = some 24 := by kernel_rfl
theorem ag60 : aggOf Go.Proofs.Tryz.prog 60 = some false := by kernel_rfl
theorem el60 : elemOf Go.Proofs.Tryz.prog 60 = some 121 := by kernel_rfl
theorem un60 : Go.Proofs.Tryz.prog.underlying 60 = some (.slice 121) := by kernel_rfl
theorem sz34 : szOf Go.Proofs.Tryz.prog 34 = some 4 := by kernel_rfl
theorem ki34 : kinds Go.Proofs.Tryz.prog 12 34 = some [none, none, some 1, some 1] := by kernel_rfl
theorem ze34 : zeroOf Go.Proofs.Tryz.prog 34 = some [.v (vi 0), .v (vi 0), .s true 1 [], .s true 1 []] := by kernel_rfl
theorem by34 : bytesOf Go.Proofs.Tryz.prog 34 = some 64 := by kernel_rfl
theorem ag34 : aggOf Go.Proofs.Tryz.prog 34 = some true := by kernel_rfl
theorem is34 : isStruct Go.Proofs.Tryz.prog 34 = true := by kernel_rfl
theorem fo34_0 : fieldOf Go.Proofs.Tryz.prog 34 0 = some (0, 1, false) := by kernel_rfl
theorem fo34_1 : fieldOf Go.Proofs.Tryz.prog 34 1 = some (1, 1, false) := by kernel_rfl
theorem fo34_2 : fieldOf Go.Proofs.Tryz.prog 34 2 = some (2, 1, false) := by kernel_rfl
theorem fo34_3 : fieldOf Go.Proofs.Tryz.prog 34 3 = some (3, 1, false) := by kernel_rfl
theorem sz106 : szOf Go.Proofs.Tryz.prog 106 = some 3 := by kernel_rfl
theorem ki106 : kinds Go.Proofs.Tryz.prog 12 106 = some [none, none, none] := by kernel_rfl
theorem ze106 : zeroOf Go.Proofs.Tryz.prog 106 = some [.v (vi 0), .v (vi 0), .v (vi 0)] := by kernel_rfl
theorem by106 : bytesOf Go.Proofs.Tryz.prog 106 = some 24 := by kernel_rfl
theorem ag106 : aggOf Go.Proofs.Tryz.prog 106 = some true := by kernel_rfl
theorem is106 : isStruct Go.Proofs.Tryz.prog 106 = true := by kernel_rfl
theorem fo106_0 : fieldOf Go.Proofs.Tryz.prog 106 0 = some (0, 1, false) := by kernel_rfl
theorem fo106_1 : fieldOf Go.Proofs.Tryz.prog 106 1 = some (1, 1, false) := by kernel_rfl
theorem fo106_2 : fieldOf Go.Proofs.Tryz.prog 106 2 = some (2, 1, false) := by kernel_rfl
theorem gu106 : Go.Proofs.Tryz.prog.eqGuardType Go.Proofs.Tryz.prog.depth 106 = false := by kernel_rfl
theorem fe106 : flatEq Go.Proofs.Tryz.prog 12 106 = some [.i, .i, .i] := by kernel_rfl
theorem sz42 : szOf Go.Proofs.Tryz.prog 42 = some 1 := by kernel_rfl
theorem ki42 : kinds Go.Proofs.Tryz.prog 12 42 = some [some 3] := by kernel_rfl
theorem ze42 : zeroOf Go.Proofs.Tryz.prog 42 = some [.s true 3 []] := by kernel_rfl
theorem by42 : bytesOf Go.Proofs.Tryz.prog 42 = some 24 := by kernel_rfl
theorem ag42 : aggOf Go.Proofs.Tryz.prog 42 = some false := by kernel_rfl
theorem el42 : elemOf Go.Proofs.Tryz.prog 42 = some 106 := by kernel_rfl
theorem un42 : Go.Proofs.Tryz.prog.underlying 42 = some (.slice 106) := by kernel_rfl
theorem sz38 : szOf Go.Proofs.Tryz.prog 38 = some 1 := by kernel_rfl
theorem ki38 : kinds Go.Proofs.Tryz.prog 12 38 = some [some 4] := by kernel_rfl
theorem ze38 : zeroOf Go.Proofs.Tryz.prog 38 = some [.s true 4 []] := by kernel_rfl
theorem by38 : bytesOf Go.Proofs.Tryz.prog 38 = some 24 := by kernel_rfl
theorem ag38 : aggOf Go.Proofs.Tryz.prog 38 = some false := by kernel_rfl
theorem el38 : elemOf Go.Proofs.Tryz.prog 38 = some 34 := by kernel_rfl
theorem un38 : Go.Proofs.Tryz.prog.underlying 38 = some (.slice 34) := by kernel_rfl
theorem sz40 : szOf Go.Proofs.Tryz.prog 40 = some 2 := by kernel_rfl
theorem ki40 : kinds Go.Proofs.Tryz.prog 12 40 = some [some 4, none] := by kernel_rfl
theorem ze40 : zeroOf Go.Proofs.Tryz.prog 40 = some [.s true 4 [], .v (vi 0)] := by kernel_rfl
theorem by40 : bytesOf Go.Proofs.Tryz.prog 40 = some 32 := by kernel_rfl
theorem ag40 : aggOf Go.Proofs.Tryz.prog 40 = some true := by kernel_rfl
theorem is40 : isStruct Go.Proofs.Tryz.prog 40 = true := by kernel_rfl
theorem fo40_0 : fieldOf Go.Proofs.Tryz.prog 40 0 = some (0, 1, false) := by kernel_rfl
theorem fo40_1 : fieldOf Go.Proofs.Tryz.prog 40 1 = some (1, 1, false) := by kernel_rfl
theorem sz41 : szOf Go.Proofs.Tryz.prog 41 = some 3 := by kernel_rfl
theorem ki41 : kinds Go.Proofs.Tryz.prog 12 41 = some [none, none, none] := by kernel_rfl
theorem ze41 : zeroOf Go.Proofs.Tryz.prog 41 = some [.v (vi 0), .v (vi 0), .v (vi 0)] := by kernel_rfl
theorem by41 : bytesOf Go.Proofs.Tryz.prog 41 = some 24 := by kernel_rfl
theorem ag41 : aggOf Go.Proofs.Tryz.prog 41 = some true := by kernel_rfl
theorem is41 : isStruct Go.Proofs.Tryz.prog 41 = true := by kernel_rfl
theorem fo41_0 : fieldOf Go.Proofs.Tryz.prog 41 0 = some (0, 1, false) := by kernel_rfl
theorem fo41_1 : fieldOf Go.Proofs.Tryz.prog 41 1 = some (1, 1, false) := by kernel_rfl
theorem fo41_2 : fieldOf Go.Proofs.Tryz.prog 41 2 = some (2, 1, false) := by kernel_rfl
theorem gu41 : Go.Proofs.Tryz.prog.eqGuardType Go.Proofs.Tryz.prog.depth 41 = false := by kernel_rfl
theorem fe41 : flatEq Go.Proofs.Tryz.prog 12 41 = some [.i, .i, .i] := by kernel_rfl
theorem sz62 : szOf Go.Proofs.Tryz.prog 62 = some 12 := by kernel_rfl
theorem ki62 : kinds Go.Proofs.Tryz.prog 12 62 = some [none, none, none, none, none, none, some 1, some 1, none, some 7, none, some 7] := by kernel_rfl
theorem ze62 : zeroOf Go.Proofs.Tryz.prog 62 = some [.v (.bool false), .v (.bool false), .v (vi 0), .v (vi 0), .v (vi 0), .v (vi 0), .s true 1 [], .s true 1 [], .v (vi 0), .s true 7 [], .v (vi 0), .s true 7 []] := by kernel_rfl
theorem by62 : bytesOf Go.Proofs.Tryz.prog 62 = some 152 := by kernel_rfl
theorem ag62 : aggOf Go.Proofs.Tryz.prog 62 = some true := by kernel_rfl
theorem is62 : isStruct Go.Proofs.Tryz.prog 62 = true := by kernel_rfl
theorem fo62_0 : fieldOf Go.Proofs.Tryz.prog 62 0 = some (0, 1, false) := by kernel_rfl
theorem fo62_1 : fieldOf Go.Proofs.Tryz.prog 62 1 = some (1, 1, false) := by kernel_rfl
theorem fo62_2 : fieldOf Go.Proofs.Tryz.prog 62 2 = some (2, 1, false) := by kernel_rfl
theorem fo62_3 : fieldOf Go.Proofs.Tryz.prog 62 3 = some (3, 1, false) := by kernel_rfl
theorem fo62_4 : fieldOf Go.Proofs.Tryz.prog 62 4 = some (4, 4, true) := by kernel_rfl
theorem fo62_5 : fieldOf Go.Proofs.Tryz.prog 62 5 = some (8, 1, false) := by kernel_rfl
theorem fo62_6 : fieldOf Go.Proofs.Tryz.prog 62 6 = some (9, 1, false) := by kernel_rfl
theorem fo62_7 : fieldOf Go.Proofs.Tryz.prog 62 7 = some (10, 1, false) := by kernel_rfl
theorem fo62_8 : fieldOf Go.Proofs.Tryz.prog 62 8 = some (11, 1, false) := by kernel_rfl
theorem sz37 : szOf Go.Proofs.Tryz.prog 37 = some 1 := by kernel_rfl
theorem ki37 : kinds Go.Proofs.Tryz.prog 12 37 = some [some 12] := by kernel_rfl
theorem ze37 : zeroOf Go.Proofs.Tryz.prog 37 = some [.s true 12 []] := by kernel_rfl
theorem by37 : bytesOf Go.Proofs.Tryz.prog 37 = some 24 := by kernel_rfl
theorem ag37 : aggOf Go.Proofs.Tryz.prog 37 = some false := by kernel_rfl
theorem el37 : elemOf Go.Proofs.Tryz.prog 37 = some 62 := by kernel_rfl
theorem un37 : Go.Proofs.Tryz.prog.underlying 37 = some (.slice 62) := by kernel_rfl
theorem sz44 : szOf Go.Proofs.Tryz.prog 44 = some 10 := by kernel_rfl
theorem ki44 : kinds Go.Proofs.Tryz.prog 12 44 = some [none, some 12, some 1, some 4, none, none, none, none, none, some 3] := by kernel_rfl
theorem ze44 : zeroOf Go.Proofs.Tryz.prog 44 = some [.v (vi 0), .s true 12 [], .s true 1 [], .s true 4 [], .v (vi 0), .v (vi 0), .v (vi 0), .v (vi 0), .v (vi 0), .s true 3 []] := by kernel_rfl
theorem by44 : bytesOf Go.Proofs.Tryz.prog 44 = some 144 := by kernel_rfl
theorem ag44 : aggOf Go.Proofs.Tryz.prog 44 = some true := by kernel_rfl
theorem is44 : isStruct Go.Proofs.Tryz.prog 44 = true := by kernel_rfl
theorem fo44_0 : fieldOf Go.Proofs.Tryz.prog 44 0 = some (0, 1, false) := by kernel_rfl
theorem fo44_1 : fieldOf Go.Proofs.Tryz.prog 44 1 = some (1, 1, false) := by kernel_rfl
theorem fo44_2 : fieldOf Go.Proofs.Tryz.prog 44 2 = some (2, 1, false) := by kernel_rfl
theorem fo44_3 : fieldOf Go.Proofs.Tryz.prog 44 3 = some (3, 2, true) := by kernel_rfl
theorem fo44_4 : fieldOf Go.Proofs.Tryz.prog 44 4 = some (5, 1, false) := by kernel_rfl
theorem fo44_5 : fieldOf Go.Proofs.Tryz.prog 44 5 = some (6, 3, true) := by kernel_rfl
theorem fo44_6 : fieldOf Go.Proofs.Tryz.prog 44 6 = some (9, 1, false) := by kernel_rfl
theorem un141 : Go.Proofs.Tryz.prog.underlying 141 = some (.int .u64) := by kernel_rfl
theorem un156 : Go.Proofs.Tryz.prog.underlying 156 = some (.int .u64) := by kernel_rfl
theorem ki141 : kinds Go.Proofs.Tryz.prog 12 141 = some [none] := by kernel_rfl
theorem ki156 : kinds Go.Proofs.Tryz.prog 12 156 = some [none] := by kernel_rfl
theorem un3 : Go.Proofs.Tryz.prog.underlying 3 = some (.int .i64) := by kernel_rfl
theorem el3n : elemOf Go.Proofs.Tryz.prog 3 = none := by kernel_rfl
theorem sz138 : szOf Go.Proofs.Tryz.prog 138 = some 1 := by kernel_rfl
theorem ki138 : kinds Go.Proofs.Tryz.prog 12 138 = some [some 1] := by kernel_rfl
theorem ze138 : zeroOf Go.Proofs.Tryz.prog 138 = some [.s true 1 []] := by kernel_rfl
theorem by138 : bytesOf Go.Proofs.Tryz.prog 138 = some 24 := by kernel_rfl
theorem ag138 : aggOf Go.Proofs.Tryz.prog 138 = some false := by kernel_rfl
theorem el138 : elemOf Go.Proofs.Tryz.prog 138 = some 23 := by kernel_rfl
theorem un138 : Go.Proofs.Tryz.prog.underlying 138 = some (.slice 23) := by kernel_rfl
theorem sz134 : szOf Go.Proofs.Tryz.prog 134 = some 6 := by kernel_rfl
theorem ki134 : kinds Go.Proofs.Tryz.prog 12 134 = some [none, none, none, none, none, none] := by kernel_rfl
theorem ze134 : zeroOf Go.Proofs.Tryz.prog 134 = some [.v (vi 0), .v (vi 0), .v (vi 0), .v (vi 0), .v (vi 0), .v (vi 0)] := by kernel_rfl
theorem by134 : bytesOf Go.Proofs.Tryz.prog 134 = some 48 := by kernel_rfl
theorem ag134 : aggOf Go.Proofs.Tryz.prog 134 = some true := by kernel_rfl
theorem is134 : isStruct Go.Proofs.Tryz.prog 134 = true := by kernel_rfl
theorem fo134_0 : fieldOf Go.Proofs.Tryz.prog 134 0 = some (0, 1, false) := by kernel_rfl
theorem fo134_1 : fieldOf Go.Proofs.Tryz.prog 134 1 = some (1, 1, false) := by kernel_rfl
theorem fo134_2 : fieldOf Go.Proofs.Tryz.prog 134 2 = some (2, 1, false) := by kernel_rfl
theorem fo134_3 : fieldOf Go.Proofs.Tryz.prog 134 3 = some (3, 1, false) := by kernel_rfl
theorem fo134_4 : fieldOf Go.Proofs.Tryz.prog 134 4 = some (4, 1, false) := by kernel_rfl
theorem fo134_5 : fieldOf Go.Proofs.Tryz.prog 134 5 = some (5, 1, false) := by kernel_rfl
theorem gu134 : Go.Proofs.Tryz.prog.eqGuardType Go.Proofs.Tryz.prog.depth 134 = false := by kernel_rfl
theorem fe134 : flatEq Go.Proofs.Tryz.prog 12 134 = some [.i, .i, .i, .i, .i, .i] := by kernel_rfl
theorem sz136 : szOf Go.Proofs.Tryz.prog 136 = some 7 := by kernel_rfl
theorem ki136 : kinds Go.Proofs.Tryz.prog 12 136 = some [none, none, none, none, none, none, none] := by kernel_rfl
theorem ze136 : zeroOf Go.Proofs.Tryz.prog 136 = some [.v (vi 0), .v (vi 0), .v (vi 0), .v (vi 0), .v (vi 0), .v (vi 0), .v (vi 0)] := by kernel_rfl
theorem by136 : bytesOf Go.Proofs.Tryz.prog 136 = some 56 := by kernel_rfl
theorem ag136 : aggOf Go.Proofs.Tryz.prog 136 = some true := by kernel_rfl
theorem is136 : isStruct Go.Proofs.Tryz.prog 136 = true := by kernel_rfl
theorem fo136_0 : fieldOf Go.Proofs.Tryz.prog 136 0 = some (0, 1, false) := by kernel_rfl
theorem fo136_1 : fieldOf Go.Proofs.Tryz.prog 136 1 = some (1, 6, true) := by kernel_rfl
theorem gu136 : Go.Proofs.Tryz.prog.eqGuardType Go.Proofs.Tryz.prog.depth 136 = false := by kernel_rfl
theorem fe136 : flatEq Go.Proofs.Tryz.prog 12 136 = some [.i, .i, .i, .i, .i, .i, .i] := by kernel_rfl
theorem sz108 : szOf Go.Proofs.Tryz.prog 108 = some 3 := by kernel_rfl
theorem ki108 : kinds Go.Proofs.Tryz.prog 12 108 = some [none, none, none] := by kernel_rfl
theorem ze108 : zeroOf Go.Proofs.Tryz.prog 108 = some [.v (vi 0), .v (vi 0), .v (vi 0)] := by kernel_rfl
theorem by108 : bytesOf Go.Proofs.Tryz.prog 108 = some 24 := by kernel_rfl
theorem ag108 : aggOf Go.Proofs.Tryz.prog 108 = some true := by kernel_rfl
theorem is108 : isStruct Go.Proofs.Tryz.prog 108 = true := by kernel_rfl
theorem fo108_0 : fieldOf Go.Proofs.Tryz.prog 108 0 = some (0, 1, false) := by kernel_rfl
theorem fo108_1 : fieldOf Go.Proofs.Tryz.prog 108 1 = some (1, 1, false) := by kernel_rfl
theorem fo108_2 : fieldOf Go.Proofs.Tryz.prog 108 2 = some (2, 1, false) := by kernel_rfl
theorem gu108 : Go.Proofs.Tryz.prog.eqGuardType Go.Proofs.Tryz.prog.depth 108 = false := by kernel_rfl
theorem fe108 : flatEq Go.Proofs.Tryz.prog 12 108 = some [.i, .i, .i] := by kernel_rfl
theorem sz28 : szOf Go.Proofs.Tryz.prog 28 = some 3 := by kernel_rfl
theorem ki28 : kinds Go.Proofs.Tryz.prog 12 28 = some [none, none, none] := by kernel_rfl
theorem ze28 : zeroOf Go.Proofs.Tryz.prog 28 = some [.v (vi 0), .v (vi 0), .v (vi 0)] := by kernel_rfl
theorem by28 : bytesOf Go.Proofs.Tryz.prog 28 = some 24 := by kernel_rfl
theorem ag28 : aggOf Go.Proofs.Tryz.prog 28 = some true := by kernel_rfl
theorem is28 : isStruct Go.Proofs.Tryz.prog 28 = true := by kernel_rfl
theorem fo28_0 : fieldOf Go.Proofs.Tryz.prog 28 0 = some (0, 1, false) := by kernel_rfl
theorem fo28_1 : fieldOf Go.Proofs.Tryz.prog 28 1 = some (1, 1, false) := by kernel_rfl
theorem fo28_2 : fieldOf Go.Proofs.Tryz.prog 28 2 = some (2, 1, false) := by kernel_rfl
theorem gu28 : Go.Proofs.Tryz.prog.eqGuardType Go.Proofs.Tryz.prog.depth 28 = false := by kernel_rfl
theorem fe28 : flatEq Go.Proofs.Tryz.prog 12 28 = some [.i, .i, .i] := by kernel_rfl
theorem sz88 : szOf Go.Proofs.Tryz.prog 88 = some 1 := by kernel_rfl
theorem ki88 : kinds Go.Proofs.Tryz.prog 12 88 = some [some 7] := by kernel_rfl
theorem ze88 : zeroOf Go.Proofs.Tryz.prog 88 = some [.s true 7 []] := by kernel_rfl
theorem by88 : bytesOf Go.Proofs.Tryz.prog 88 = some 24 := by kernel_rfl
theorem ag88 : aggOf Go.Proofs.Tryz.prog 88 = some false := by kernel_rfl
theorem el88 : elemOf Go.Proofs.Tryz.prog 88 = some 136 := by kernel_rfl
theorem un88 : Go.Proofs.Tryz.prog.underlying 88 = some (.slice 136) := by kernel_rfl
theorem sz29 : szOf Go.Proofs.Tryz.prog 29 = some 1 := by kernel_rfl
theorem ki29 : kinds Go.Proofs.Tryz.prog 12 29 = some [some 3] := by kernel_rfl
theorem ze29 : zeroOf Go.Proofs.Tryz.prog 29 = some [.s true 3 []] := by kernel_rfl
theorem by29 : bytesOf Go.Proofs.Tryz.prog 29 = some 24 := by kernel_rfl
theorem ag29 : aggOf Go.Proofs.Tryz.prog 29 = some false := by kernel_rfl
theorem el29 : elemOf Go.Proofs.Tryz.prog 29 = some 108 := by kernel_rfl
theorem un29 : Go.Proofs.Tryz.prog.underlying 29 = some (.slice 108) := by kernel_rfl
theorem sz87 : szOf Go.Proofs.Tryz.prog 87 = some 4 := by kernel_rfl
theorem ki87 : kinds Go.Proofs.Tryz.prog 12 87 = some [none, none, some 1, some 1] := by kernel_rfl
theorem ze87 : zeroOf Go.Proofs.Tryz.prog 87 = some [.v (vi 0), .v (vi 0), .s true 1 [], .s true 1 []] := by kernel_rfl
theorem by87 : bytesOf Go.Proofs.Tryz.prog 87 = some 64 := by kernel_rfl
theorem ag87 : aggOf Go.Proofs.Tryz.prog 87 = some true := by kernel_rfl
theorem is87 : isStruct Go.Proofs.Tryz.prog 87 = true := by kernel_rfl
theorem fo87_0 : fieldOf Go.Proofs.Tryz.prog 87 0 = some (0, 1, false) := by kernel_rfl
theorem fo87_1 : fieldOf Go.Proofs.Tryz.prog 87 1 = some (1, 1, false) := by kernel_rfl
theorem fo87_2 : fieldOf Go.Proofs.Tryz.prog 87 2 = some (2, 1, false) := by kernel_rfl
theorem fo87_3 : fieldOf Go.Proofs.Tryz.prog 87 3 = some (3, 1, false) := by kernel_rfl
theorem sz24 : szOf Go.Proofs.Tryz.prog 24 = some 1 := by kernel_rfl
theorem ki24 : kinds Go.Proofs.Tryz.prog 12 24 = some [some 4] := by kernel_rfl
theorem ze24 : zeroOf Go.Proofs.Tryz.prog 24 = some [.s true 4 []] := by kernel_rfl
theorem by24 : bytesOf Go.Proofs.Tryz.prog 24 = some 24 := by kernel_rfl
theorem ag24 : aggOf Go.Proofs.Tryz.prog 24 = some false := by kernel_rfl
theorem el24 : elemOf Go.Proofs.Tryz.prog 24 = some 87 := by kernel_rfl
theorem un24 : Go.Proofs.Tryz.prog.underlying 24 = some (.slice 87) := by kernel_rfl
theorem sz26 : szOf Go.Proofs.Tryz.prog 26 = some 2 := by kernel_rfl
theorem ki26 : kinds Go.Proofs.Tryz.prog 12 26 = some [some 4, none] := by kernel_rfl
theorem ze26 : zeroOf Go.Proofs.Tryz.prog 26 = some [.s true 4 [], .v (vi 0)] := by kernel_rfl
theorem by26 : bytesOf Go.Proofs.Tryz.prog 26 = some 32 := by kernel_rfl
theorem ag26 : aggOf Go.Proofs.Tryz.prog 26 = some true := by kernel_rfl
theorem is26 : isStruct Go.Proofs.Tryz.prog 26 = true := by kernel_rfl
theorem fo26_0 : fieldOf Go.Proofs.Tryz.prog 26 0 = some (0, 1, false) := by kernel_rfl
theorem fo26_1 : fieldOf Go.Proofs.Tryz.prog 26 1 = some (1, 1, false) := by kernel_rfl
theorem sz90 : szOf Go.Proofs.Tryz.prog 90 = some 12 := by kernel_rfl
theorem ki90 : kinds Go.Proofs.Tryz.prog 12 90 = some [none, none, none, none, none, none, some 1, some 1, none, some 7, none, some 7] := by kernel_rfl
theorem ze90 : zeroOf Go.Proofs.Tryz.prog 90 = some [.v (.bool false), .v (.bool false), .v (vi 0), .v (vi 0), .v (vi 0), .v (vi 0), .s true 1 [], .s true 1 [], .v (vi 0), .s true 7 [], .v (vi 0), .s true 7 []] := by kernel_rfl
theorem by90 : bytesOf Go.Proofs.Tryz.prog 90 = some 152 := by kernel_rfl
theorem ag90 : aggOf Go.Proofs.Tryz.prog 90 = some true := by kernel_rfl
theorem is90 : isStruct Go.Proofs.Tryz.prog 90 = true := by kernel_rfl
theorem fo90_0 : fieldOf Go.Proofs.Tryz.prog 90 0 = some (0, 1, false) := by kernel_rfl
theorem fo90_1 : fieldOf Go.Proofs.Tryz.prog 90 1 = some (1, 1, false) := by kernel_rfl
theorem fo90_2 : fieldOf Go.Proofs.Tryz.prog 90 2 = some (2, 1, false) := by kernel_rfl
theorem fo90_3 : fieldOf Go.Proofs.Tryz.prog 90 3 = some (3, 1, false) := by kernel_rfl
theorem fo90_4 : fieldOf Go.Proofs.Tryz.prog 90 4 = some (4, 4, true) := by kernel_rfl
theorem fo90_5 : fieldOf Go.Proofs.Tryz.prog 90 5 = some (8, 1, false) := by kernel_rfl
theorem fo90_6 : fieldOf Go.Proofs.Tryz.prog 90 6 = some (9, 1, false) := by kernel_rfl
theorem fo90_7 : fieldOf Go.Proofs.Tryz.prog 90 7 = some (10, 1, false) := by kernel_rfl
theorem fo90_8 : fieldOf Go.Proofs.Tryz.prog 90 8 = some (11, 1, false) := by kernel_rfl
theorem sz22 : szOf Go.Proofs.Tryz.prog 22 = some 1 := by kernel_rfl
theorem ki22 : kinds Go.Proofs.Tryz.prog 12 22 = some [some 12] := by kernel_rfl
theorem ze22 : zeroOf Go.Proofs.Tryz.prog 22 = some [.s true 12 []] := by kernel_rfl
theorem by22 : bytesOf Go.Proofs.Tryz.prog 22 = some 24 := by kernel_rfl
theorem ag22 : aggOf Go.Proofs.Tryz.prog 22 = some false := by kernel_rfl
theorem el22 : elemOf Go.Proofs.Tryz.prog 22 = some 90 := by kernel_rfl
theorem un22 : Go.Proofs.Tryz.prog.underlying 22 = some (.slice 90) := by kernel_rfl
theorem sz31 : szOf Go.Proofs.Tryz.prog 31 = some 10 := by kernel_rfl
theorem ki31 : kinds Go.Proofs.Tryz.prog 12 31 = some [none, some 12, some 1, some 4, none, none, none, none, none, some 3] := by kernel_rfl
theorem ze31 : zeroOf Go.Proofs.Tryz.prog 31 = some [.v (vi 0), .s true 12 [], .s true 1 [], .s true 4 [], .v (vi 0), .v (vi 0), .v (vi 0), .v (vi 0), .v (vi 0), .s true 3 []] := by kernel_rfl
theorem by31 : bytesOf Go.Proofs.Tryz.prog 31 = some 144 := by kernel_rfl
theorem ag31 : aggOf Go.Proofs.Tryz.prog 31 = some true := by kernel_rfl
theorem is31 : isStruct Go.Proofs.Tryz.prog 31 = true := by kernel_rfl
theorem fo31_0 : fieldOf Go.Proofs.Tryz.prog 31 0 = some (0, 1, false) := by kernel_rfl
theorem fo31_1 : fieldOf Go.Proofs.Tryz.prog 31 1 = some (1, 1, false) := by kernel_rfl
theorem fo31_2 : fieldOf Go.Proofs.Tryz.prog 31 2 = some (2, 1, false) := by kernel_rfl
theorem fo31_3 : fieldOf Go.Proofs.Tryz.prog 31 3 = some (3, 2, true) := by kernel_rfl
theorem fo31_4 : fieldOf Go.Proofs.Tryz.prog 31 4 = some (5, 1, false) := by kernel_rfl
theorem fo31_5 : fieldOf Go.Proofs.Tryz.prog 31 5 = some (6, 3, true) := by kernel_rfl
theorem fo31_6 : fieldOf Go.Proofs.Tryz.prog 31 6 = some (9, 1, false) := by kernel_rfl
theorem un9 : Go.Proofs.Tryz.prog.underlying 9 = some .string := by kernel_rfl
theorem eln9 : elemOf Go.Proofs.Tryz.prog 9 = none := by kernel_rfl
theorem un5 : Go.Proofs.Tryz.prog.underlying 5 = some (.int .u8) := by kernel_rfl
theorem ki5 : kinds Go.Proofs.Tryz.prog 12 5 = some [none] := by kernel_rfl
theorem sz5 : szOf Go.Proofs.Tryz.prog 5 = some 1 := by kernel_rfl
theorem ze5 : zeroOf Go.Proofs.Tryz.prog 5 = some [.v (.int .u8 0)] := by kernel_rfl
theorem ki9 : kinds Go.Proofs.Tryz.prog 12 9 = some [none] := by kernel_rfl
theorem sz9 : szOf Go.Proofs.Tryz.prog 9 = some 1 := by kernel_rfl
theorem ze9 : zeroOf Go.Proofs.Tryz.prog 9 = some [.v (.string ⟨#[]⟩)] := by kernel_rfl
theorem by9 : bytesOf Go.Proofs.Tryz.prog 9 = some 16 := by kernel_rfl
theorem ag9 : aggOf Go.Proofs.Tryz.prog 9 = some false := by kernel_rfl
attribute [go_sem] sz3 ki3 ze3 by3 ag3 sz4 ki4 ze4 by4 ag4 un4 sz23 ki23 ze23 by23 ag23 el23 un23 sz119 ki119 ze119 by119 ag119 is119 fo119_0 fo119_1 fo119_2 fo119_3 fo119_4 fo119_5 gu119 fe119 sz121 ki121 ze121 by121 ag121 is121 fo121_0 fo121_1 gu121 fe121 sz60 ki60 ze60 by60 ag60 el60 un60 sz34 ki34 ze34 by34 ag34 is34 fo34_0 fo34_1 fo34_2 fo34_3 sz106 ki106 ze106 by106 ag106 is106 fo106_0 fo106_1 fo106_2 gu106 fe106 sz42 ki42 ze42 by42 ag42 el42 un42 sz38 ki38 ze38 by38 ag38 el38 un38 sz40 ki40 ze40 by40 ag40 is40 fo40_0 fo40_1 sz41 ki41 ze41 by41 ag41 is41 fo41_0 fo41_1 fo41_2 gu41 fe41 sz62 ki62 ze62 by62 ag62 is62 fo62_0 fo62_1 fo62_2 fo62_3 fo62_4 fo62_5 fo62_6 fo62_7 fo62_8 sz37 ki37 ze37 by37 ag37 el37 un37 sz44 ki44 ze44 by44 ag44 is44 fo44_0 fo44_1 fo44_2 fo44_3 fo44_4 fo44_5 fo44_6 un141 un156 ki141 ki156 un3 el3n sz138 ki138 ze138 by138 ag138 el138 un138 sz134 ki134 ze134 by134 ag134 is134 fo134_0 fo134_1 fo134_2 fo134_3 fo134_4 fo134_5 gu134 fe134 sz136 ki136 ze136 by136 ag136 is136 fo136_0 fo136_1 gu136 fe136 sz108 ki108 ze108 by108 ag108 is108 fo108_0 fo108_1 fo108_2 gu108 fe108 sz28 ki28 ze28 by28 ag28 is28 fo28_0 fo28_1 fo28_2 gu28 fe28 sz88 ki88 ze88 by88 ag88 el88 un88 sz29 ki29 ze29 by29 ag29 el29 un29 sz87 ki87 ze87 by87 ag87 is87 fo87_0 fo87_1 fo87_2 fo87_3 sz24 ki24 ze24 by24 ag24 el24 un24 sz26 ki26 ze26 by26 ag26 is26 fo26_0 fo26_1 sz90 ki90 ze90 by90 ag90 is90 fo90_0 fo90_1 fo90_2 fo90_3 fo90_4 fo90_5 fo90_6 fo90_7 fo90_8 sz22 ki22 ze22 by22 ag22 el22 un22 sz31 ki31 ze31 by31 ag31 is31 fo31_0 fo31_1 fo31_2 fo31_3 fo31_4 fo31_5 fo31_6 un9 eln9 un5 ki5 sz5 ze5 ki9 sz9 ze9 by9 ag9
end Go.Abs
namespace Go.Abs
theorem HFS : (∀ (p : Prop) [Decidable p], (decide p = true) = p) ∧ (∀ (p : Prop) [Decidable p], (decide p = false) = ¬ p) ∧ (∀ b : Bool, ((!b) = true) = (b = false)) ∧ (∀ b : Bool, ((!b) = false) = (b = true)) ∧ (∀ b : Bool, (¬ (b = true)) = (b = false)) ∧ (∀ b : Bool, (¬ (b = false)) = (b = true)) ∧
    (∀ (α : Type) [BEq α] [LawfulBEq α] (a b : α), ((a == b) = true) = (a = b)) ∧ (∀ (α : Type) [BEq α] [LawfulBEq α] (a b : α), ((a == b) = false) = (a ≠ b)) ∧ (∀ (α : Type) [BEq α] [LawfulBEq α] (a b : α), ((a != b) = true) = (a ≠ b)) ∧ (∀ (α : Type) [BEq α] [LawfulBEq α] (a b : α), ((a != b) = false) = (a = b)) ∧
    (∀ a b : Int, (¬ a < b) = (b ≤ a)) ∧ (∀ a b : Int, (¬ a ≤ b) = (b < a)) ∧ (∀ (α : Type) (a b : α), (a ≠ b) = ¬ (a = b)) :=
  ⟨fun _ _ => decide_eq_true_eq, fun _ _ => propext decide_eq_false_iff_not, fun _ => Bool.not_eq_true' _, fun _ => Bool.not_eq_false' _, fun _ => Bool.not_eq_true _, fun _ => Bool.not_eq_false _, fun _ _ _ _ _ => propext beq_iff_eq, fun _ _ _ _ _ => propext beq_eq_false_iff_ne, fun _ _ _ _ _ => propext bne_iff_ne, fun _ _ _ _ _ => propext bne_eq_false_iff_eq, fun _ _ => propext Int.not_lt, fun _ _ => propext Int.not_le, fun _ _ _ => rfl⟩
theorem IJS : (∀ (α : Type) (a b : α) (l m : List α), (a :: l = b :: m) = (a = b ∧ l = m)) ∧ (∀ a b, (A.c a = A.c b) = (a = b)) ∧ (∀ a b, (A.a a = A.a b) = (a = b)) ∧ (∀ x y, (T.v x = T.v y) = (x = y)) ∧ (∀ a b c a' b' c', (T.s a b c = T.s a' b' c') = (a = a' ∧ b = b' ∧ c = c')) ∧ (∀ a b, (Value.bool a = Value.bool b) = (a = b)) ∧ (∀ k m k' m', (Value.int k m = Value.int k' m') = (k = k' ∧ m = m')) ∧ (∀ p : Prop, (p ∧ True) = p) ∧ (∀ p : Prop, (True ∧ p) = p) := by
  refine ⟨?_, ?_, ?_, ?_, ?_, ?_, ?_, ?_, ?_⟩ <;> intros <;> simp
end Go.Abs
