/- Facts about the program's types. No condition. -/
import Derived.Test.YtchoomlibgefbaaGreatDoorPlain
import Derived.KernelRfl
import Derived.Test.YtchoomlibgefbaaGreatDoorProg
set_option linter.unusedVariables false
set_option linter.unusedSimpArgs false
set_option linter.unnecessarySimpa false
set_option linter.constructorNameAsVariable false
set_option maxRecDepth 100000
namespace Go.Abs
open Go
theorem sz3 : szOf Go.Proofs.Tryz.prog 3 = some 1 := by kernel_rfl
theorem ki3 : kinds Go.Proofs.Tryz.prog 12 3 = some [none] := by kernel_rfl
theorem ze3 : zeroOf Go.Proofs.Tryz.prog 3 = some [.v (vi 0)] := by kernel_rfl
theorem by3 : bytesOf Go.Proofs.Tryz.prog 3 = some 8 := by kernel_rfl
theorem ag3 : aggOf Go.Proofs.Tryz.prog 3 = some false := by kernel_rfl
theorem sz4 : szOf Go.Proofs.Tryz.prog 4 = some 1 := by kernel_rfl
theorem ki4 : kinds Go.Proofs.Tryz.prog 12 4 = some [none] := by kernel_rfl
theorem ze4 : zeroOf Go.Proofs.Tryz.prog 4 = some [.v (.bool false)] := by kernel_rfl
theorem by4 : bytesOf Go.Proofs.Tryz.prog 4 = some 1 := by kernel_rfl
theorem ag4 : aggOf Go.Proofs.Tryz.prog 4 = some false := by kernel_rfl
theorem un4 : Go.Proofs.Tryz.prog.underlying 4 = some .bool := by kernel_rfl
theorem sz23 : szOf Go.Proofs.Tryz.prog 23 = some 1 := by kernel_rfl
theorem ki23 : kinds Go.Proofs.Tryz.prog 12 23 = some [some 1] := by kernel_rfl
theorem ze23 : zeroOf Go.Proofs.Tryz.prog 23 = some [.s true 1 []] := by kernel_rfl
theorem by23 : bytesOf Go.Proofs.Tryz.prog 23 = some 24 := by kernel_rfl
theorem ag23 : aggOf Go.Proofs.Tryz.prog 23 = some false := by kernel_rfl
theorem el23 : elemOf Go.Proofs.Tryz.prog 23 = some 3 := by kernel_rfl
theorem un23 : Go.Proofs.Tryz.prog.underlying 23 = some (.slice 3) := by kernel_rfl
theorem sz83 : szOf Go.Proofs.Tryz.prog 83 = some 6 := by kernel_rfl
theorem ki83 : kinds Go.Proofs.Tryz.prog 12 83 = some [none, none, none, none, none, none] := by kernel_rfl
theorem ze83 : zeroOf Go.Proofs.Tryz.prog 83 = some [.v (vi 0), .v (vi 0), .v (vi 0), .v (vi 0), .v (vi 0), .v (vi 0)] := by kernel_rfl
theorem by83 : bytesOf Go.Proofs.Tryz.prog 83 = some 48 := by kernel_rfl
theorem ag83 : aggOf Go.Proofs.Tryz.prog 83 = some true := by kernel_rfl
theorem is83 : isStruct Go.Proofs.Tryz.prog 83 = true := by kernel_rfl
theorem fo83_0 : fieldOf Go.Proofs.Tryz.prog 83 0 = some (0, 1, false) := by kernel_rfl
theorem fo83_1 : fieldOf Go.Proofs.Tryz.prog 83 1 = some (1, 1, false) := by kernel_rfl
theorem fo83_2 : fieldOf Go.Proofs.Tryz.prog 83 2 = some (2, 1, false) := by kernel_rfl
theorem fo83_3 : fieldOf Go.Proofs.Tryz.prog 83 3 = some (3, 1, false) := by kernel_rfl
theorem fo83_4 : fieldOf Go.Proofs.Tryz.prog 83 4 = some (4, 1, false) := by kernel_rfl
theorem fo83_5 : fieldOf Go.Proofs.Tryz.prog 83 5 = some (5, 1, false) := by kernel_rfl
theorem gu83 : Go.Proofs.Tryz.prog.eqGuardType Go.Proofs.Tryz.prog.depth 83 = false := by kernel_rfl
theorem fe83 : flatEq Go.Proofs.Tryz.prog 12 83 = some [.i, .i, .i, .i, .i, .i] := by kernel_rfl
theorem sz85 : szOf Go.Proofs.Tryz.prog 85 = some 7 := by kernel_rfl
theorem ki85 : kinds Go.Proofs.Tryz.prog 12 85 = some [none, none, none, none, none, none, none] := by kernel_rfl
theorem ze85 : zeroOf Go.Proofs.Tryz.prog 85 = some [.v (vi 0), .v (vi 0), .v (vi 0), .v (vi 0), .v (vi 0), .v (vi 0), .v (vi 0)] := by kernel_rfl
theorem by85 : bytesOf Go.Proofs.Tryz.prog 85 = some 56 := by kernel_rfl
theorem ag85 : aggOf Go.Proofs.Tryz.prog 85 = some true := by kernel_rfl
theorem is85 : isStruct Go.Proofs.Tryz.prog 85 = true := by kernel_rfl
theorem fo85_0 : fieldOf Go.Proofs.Tryz.prog 85 0 = some (0, 1, false) := by kernel_rfl
theorem fo85_1 : fieldOf Go.Proofs.Tryz.prog 85 1 = some (1, 6, true) := by kernel_rfl
theorem gu85 : Go.Proofs.Tryz.prog.eqGuardType Go.Proofs.Tryz.prog.depth 85 = false := by kernel_rfl
theorem fe85 : flatEq Go.Proofs.Tryz.prog 12 85 = some [.i, .i, .i, .i, .i, .i, .i] := by kernel_rfl
theorem sz56 : szOf Go.Proofs.Tryz.prog 56 = some 1 := by kernel_rfl
theorem ki56 : kinds Go.Proofs.Tryz.prog 12 56 = some [some 7] := by kernel_rfl
theorem ze56 : zeroOf Go.Proofs.Tryz.prog 56 = some [.s true 7 []] := by kernel_rfl
theorem by56 : bytesOf Go.Proofs.Tryz.prog 56 = some 24 := by kernel_rfl
theorem ag56 : aggOf Go.Proofs.Tryz.prog 56 = some false := by kernel_rfl
theorem el56 : elemOf Go.Proofs.Tryz.prog 56 = some 85 := by kernel_rfl
theorem un56 : Go.Proofs.Tryz.prog.underlying 56 = some (.slice 85) := by kernel_rfl
theorem sz59 : szOf Go.Proofs.Tryz.prog 59 = some 4 := by kernel_rfl
theorem ki59 : kinds Go.Proofs.Tryz.prog 12 59 = some [none, none, some 1, some 1] := by kernel_rfl
theorem ze59 : zeroOf Go.Proofs.Tryz.prog 59 = some [.v (vi 0), .v (vi 0), .s true 1 [], .s true 1 []] := by kernel_rfl
theorem by59 : bytesOf Go.Proofs.Tryz.prog 59 = some 64 := by kernel_rfl
theorem ag59 : aggOf Go.Proofs.Tryz.prog 59 = some true := by kernel_rfl
theorem is59 : isStruct Go.Proofs.Tryz.prog 59 = true := by kernel_rfl
theorem fo59_0 : fieldOf Go.Proofs.Tryz.prog 59 0 = some (0, 1, false) := by kernel_rfl
theorem fo59_1 : fieldOf Go.Proofs.Tryz.prog 59 1 = some (1, 1, false) := by kernel_rfl
theorem fo59_2 : fieldOf Go.Proofs.Tryz.prog 59 2 = some (2, 1, false) := by kernel_rfl
theorem fo59_3 : fieldOf Go.Proofs.Tryz.prog 59 3 = some (3, 1, false) := by kernel_rfl
theorem sz101 : szOf Go.Proofs.Tryz.prog 101 = some 3 := by kernel_rfl
theorem ki101 : kinds Go.Proofs.Tryz.prog 12 101 = some [none, none, none] := by kernel_rfl
theorem ze101 : zeroOf Go.Proofs.Tryz.prog 101 = some [.v (vi 0), .v (vi 0), .v (vi 0)] := by kernel_rfl
theorem by101 : bytesOf Go.Proofs.Tryz.prog 101 = some 24 := by kernel_rfl
theorem ag101 : aggOf Go.Proofs.Tryz.prog 101 = some true := by kernel_rfl
theorem is101 : isStruct Go.Proofs.Tryz.prog 101 = true := by kernel_rfl
theorem fo101_0 : fieldOf Go.Proofs.Tryz.prog 101 0 = some (0, 1, false) := by kernel_rfl
theorem fo101_1 : fieldOf Go.Proofs.Tryz.prog 101 1 = some (1, 1, false) := by kernel_rfl
theorem fo101_2 : fieldOf Go.Proofs.Tryz.prog 101 2 = some (2, 1, false) := by kernel_rfl
theorem gu101 : Go.Proofs.Tryz.prog.eqGuardType Go.Proofs.Tryz.prog.depth 101 = false := by kernel_rfl
theorem fe101 : flatEq Go.Proofs.Tryz.prog 12 101 = some [.i, .i, .i] := by kernel_rfl
theorem sz39 : szOf Go.Proofs.Tryz.prog 39 = some 1 := by kernel_rfl
theorem ki39 : kinds Go.Proofs.Tryz.prog 12 39 = some [some 3] := by kernel_rfl
theorem ze39 : zeroOf Go.Proofs.Tryz.prog 39 = some [.s true 3 []] := by kernel_rfl
theorem by39 : bytesOf Go.Proofs.Tryz.prog 39 = some 24 := by kernel_rfl
theorem ag39 : aggOf Go.Proofs.Tryz.prog 39 = some false := by kernel_rfl
theorem el39 : elemOf Go.Proofs.Tryz.prog 39 = some 101 := by kernel_rfl
theorem un39 : Go.Proofs.Tryz.prog.underlying 39 = some (.slice 101) := by kernel_rfl
theorem sz35 : szOf Go.Proofs.Tryz.prog 35 = some 1 := by kernel_rfl
theorem ki35 : kinds Go.Proofs.Tryz.prog 12 35 = some [some 4] := by kernel_rfl
theorem ze35 : zeroOf Go.Proofs.Tryz.prog 35 = some [.s true 4 []] := by kernel_rfl
theorem by35 : bytesOf Go.Proofs.Tryz.prog 35 = some 24 := by kernel_rfl
theorem ag35 : aggOf Go.Proofs.Tryz.prog 35 = some false := by kernel_rfl
theorem el35 : elemOf Go.Proofs.Tryz.prog 35 = some 59 := by kernel_rfl
theorem un35 : Go.Proofs.Tryz.prog.underlying 35 = some (.slice 59) := by kernel_rfl
theorem sz37 : szOf Go.Proofs.Tryz.prog 37 = some 2 := by kernel_rfl
theorem ki37 : kinds Go.Proofs.Tryz.prog 12 37 = some [some 4, none] := by kernel_rfl
theorem ze37 : zeroOf Go.Proofs.Tryz.prog 37 = some [.s true 4 [], .v (vi 0)] := by kernel_rfl
theorem by37 : bytesOf Go.Proofs.Tryz.prog 37 = some 32 := by kernel_rfl
theorem ag37 : aggOf Go.Proofs.Tryz.prog 37 = some true := by kernel_rfl
theorem is37 : isStruct Go.Proofs.Tryz.prog 37 = true := by kernel_rfl
theorem fo37_0 : fieldOf Go.Proofs.Tryz.prog 37 0 = some (0, 1, false) := by kernel_rfl
theorem fo37_1 : fieldOf Go.Proofs.Tryz.prog 37 1 = some (1, 1, false) := by kernel_rfl
theorem sz38 : szOf Go.Proofs.Tryz.prog 38 = some 3 := by kernel_rfl
theorem ki38 : kinds Go.Proofs.Tryz.prog 12 38 = some [none, none, none] := by kernel_rfl
theorem ze38 : zeroOf Go.Proofs.Tryz.prog 38 = some [.v (vi 0), .v (vi 0), .v (vi 0)] := by kernel_rfl
theorem by38 : bytesOf Go.Proofs.Tryz.prog 38 = some 24 := by kernel_rfl
theorem ag38 : aggOf Go.Proofs.Tryz.prog 38 = some true := by kernel_rfl
theorem is38 : isStruct Go.Proofs.Tryz.prog 38 = true := by kernel_rfl
theorem fo38_0 : fieldOf Go.Proofs.Tryz.prog 38 0 = some (0, 1, false) := by kernel_rfl
theorem fo38_1 : fieldOf Go.Proofs.Tryz.prog 38 1 = some (1, 1, false) := by kernel_rfl
theorem fo38_2 : fieldOf Go.Proofs.Tryz.prog 38 2 = some (2, 1, false) := by kernel_rfl
theorem gu38 : Go.Proofs.Tryz.prog.eqGuardType Go.Proofs.Tryz.prog.depth 38 = false := by kernel_rfl
theorem fe38 : flatEq Go.Proofs.Tryz.prog 12 38 = some [.i, .i, .i] := by kernel_rfl
theorem sz61 : szOf Go.Proofs.Tryz.prog 61 = some 12 := by kernel_rfl
theorem ki61 : kinds Go.Proofs.Tryz.prog 12 61 = some [none, none, none, none, none, none, some 1, some 1, none, some 7, none, some 7] := by kernel_rfl
theorem ze61 : zeroOf Go.Proofs.Tryz.prog 61 = some [.v (.bool false), .v (.bool false), .v (vi 0), .v (vi 0), .v (vi 0), .v (vi 0), .s true 1 [], .s true 1 [], .v (vi 0), .s true 7 [], .v (vi 0), .s true 7 []] := by kernel_rfl
theorem by61 : bytesOf Go.Proofs.Tryz.prog 61 = some 152 := by kernel_rfl
theorem ag61 : aggOf Go.Proofs.Tryz.prog 61 = some true := by kernel_rfl
theorem is61 : isStruct Go.Proofs.Tryz.prog 61 = true := by kernel_rfl
theorem fo61_0 : fieldOf Go.Proofs.Tryz.prog 61 0 = some (0, 1, false) := by kernel_rfl
theorem fo61_1 : fieldOf Go.Proofs.Tryz.prog 61 1 = some (1, 1, false) := by kernel_rfl
theorem fo61_2 : fieldOf Go.Proofs.Tryz.prog 61 2 = some (2, 1, false) := by kernel_rfl
theorem fo61_3 : fieldOf Go.Proofs.Tryz.prog 61 3 = some (3, 1, false) := by kernel_rfl
theorem fo61_4 : fieldOf Go.Proofs.Tryz.prog 61 4 = some (4, 4, true) := by kernel_rfl
theorem fo61_5 : fieldOf Go.Proofs.Tryz.prog 61 5 = some (8, 1, false) := by kernel_rfl
theorem fo61_6 : fieldOf Go.Proofs.Tryz.prog 61 6 = some (9, 1, false) := by kernel_rfl
theorem fo61_7 : fieldOf Go.Proofs.Tryz.prog 61 7 = some (10, 1, false) := by kernel_rfl
theorem fo61_8 : fieldOf Go.Proofs.Tryz.prog 61 8 = some (11, 1, false) := by kernel_rfl
theorem sz34 : szOf Go.Proofs.Tryz.prog 34 = some 1 := by kernel_rfl
theorem ki34 : kinds Go.Proofs.Tryz.prog 12 34 = some [some 12] := by kernel_rfl
theorem ze34 : zeroOf Go.Proofs.Tryz.prog 34 = some [.s true 12 []] := by kernel_rfl
theorem by34 : bytesOf Go.Proofs.Tryz.prog 34 = some 24 := by kernel_rfl
theorem ag34 : aggOf Go.Proofs.Tryz.prog 34 = some false := by kernel_rfl
theorem el34 : elemOf Go.Proofs.Tryz.prog 34 = some 61 := by kernel_rfl
theorem un34 : Go.Proofs.Tryz.prog.underlying 34 = some (.slice 61) := by kernel_rfl
theorem sz41 : szOf Go.Proofs.Tryz.prog 41 = some 10 := by kernel_rfl
theorem ki41 : kinds Go.Proofs.Tryz.prog 12 41 = some [none, some 12, some 1, some 4, none, none, none, none, none, some 3] := by kernel_rfl
theorem ze41 : zeroOf Go.Proofs.Tryz.prog 41 = some [.v (vi 0), .s true 12 [], .s true 1 [], .s true 4 [], .v (vi 0), .v (vi 0), .v (vi 0), .v (vi 0), .v (vi 0), .s true 3 []] := by kernel_rfl
theorem by41 : bytesOf Go.Proofs.Tryz.prog 41 = some 144 := by kernel_rfl
theorem ag41 : aggOf Go.Proofs.Tryz.prog 41 = some true := by kernel_rfl
theorem is41 : isStruct Go.Proofs.Tryz.prog 41 = true := by kernel_rfl
theorem fo41_0 : fieldOf Go.Proofs.Tryz.prog 41 0 = some (0, 1, false) := by kernel_rfl
theorem fo41_1 : fieldOf Go.Proofs.Tryz.prog 41 1 = some (1, 1, false) := by kernel_rfl
theorem fo41_2 : fieldOf Go.Proofs.Tryz.prog 41 2 = some (2, 1, false) := by kernel_rfl
theorem fo41_3 : fieldOf Go.Proofs.Tryz.prog 41 3 = some (3, 2, true) := by kernel_rfl
theorem fo41_4 : fieldOf Go.Proofs.Tryz.prog 41 4 = some (5, 1, false) := by kernel_rfl
theorem fo41_5 : fieldOf Go.Proofs.Tryz.prog 41 5 = some (6, 3, true) := by kernel_rfl
theorem fo41_6 : fieldOf Go.Proofs.Tryz.prog 41 6 = some (9, 1, false) := by kernel_rfl
theorem un170 : Go.Proofs.Tryz.prog.underlying 170 = some (.int .u64) := by kernel_rfl
theorem un186 : Go.Proofs.Tryz.prog.underlying 186 = some (.int .u64) := by kernel_rfl
theorem ki170 : kinds Go.Proofs.Tryz.prog 12 170 = some [none] := by kernel_rfl
theorem ki186 : kinds Go.Proofs.Tryz.prog 12 186 = some [none] := by kernel_rfl
theorem un3 : Go.Proofs.Tryz.prog.underlying 3 = some (.int .i64) := by kernel_rfl
theorem el3n : elemOf Go.Proofs.Tryz.prog 3 = none := by kernel_rfl
theorem sz141 : szOf Go.Proofs.Tryz.prog 141 = some 6 := by kernel_rfl
theorem ki141 : kinds Go.Proofs.Tryz.prog 12 141 = some [none, none, none, none, none, none] := by kernel_rfl
theorem ze141 : zeroOf Go.Proofs.Tryz.prog 141 = some [.v (vi 0), .v (vi 0), .v (vi 0), .v (vi 0), .v (vi 0), .v (vi 0)] := by kernel_rfl
theorem by141 : bytesOf Go.Proofs.Tryz.prog 141 = some 48 := by kernel_rfl
theorem ag141 : aggOf Go.Proofs.Tryz.prog 141 = some true := by kernel_rfl
theorem is141 : isStruct Go.Proofs.Tryz.prog 141 = true := by kernel_rfl
theorem fo141_0 : fieldOf Go.Proofs.Tryz.prog 141 0 = some (0, 1, false) := by kernel_rfl
theorem fo141_1 : fieldOf Go.Proofs.Tryz.prog 141 1 = some (1, 1, false) := by kernel_rfl
theorem fo141_2 : fieldOf Go.Proofs.Tryz.prog 141 2 = some (2, 1, false) := by kernel_rfl
theorem fo141_3 : fieldOf Go.Proofs.Tryz.prog 141 3 = some (3, 1, false) := by kernel_rfl
theorem fo141_4 : fieldOf Go.Proofs.Tryz.prog 141 4 = some (4, 1, false) := by kernel_rfl
theorem fo141_5 : fieldOf Go.Proofs.Tryz.prog 141 5 = some (5, 1, false) := by kernel_rfl
theorem gu141 : Go.Proofs.Tryz.prog.eqGuardType Go.Proofs.Tryz.prog.depth 141 = false := by kernel_rfl
theorem fe141 : flatEq Go.Proofs.Tryz.prog 12 141 = some [.i, .i, .i, .i, .i, .i] := by kernel_rfl
theorem sz143 : szOf Go.Proofs.Tryz.prog 143 = some 7 := by kernel_rfl
theorem ki143 : kinds Go.Proofs.Tryz.prog 12 143 = some [none, none, none, none, none, none, none] := by kernel_rfl
theorem ze143 : zeroOf Go.Proofs.Tryz.prog 143 = some [.v (vi 0), .v (vi 0), .v (vi 0), .v (vi 0), .v (vi 0), .v (vi 0), .v (vi 0)] := by kernel_rfl
theorem by143 : bytesOf Go.Proofs.Tryz.prog 143 = some 56 := by kernel_rfl
theorem ag143 : aggOf Go.Proofs.Tryz.prog 143 = some true := by kernel_rfl
theorem is143 : isStruct Go.Proofs.Tryz.prog 143 = true := by kernel_rfl
theorem fo143_0 : fieldOf Go.Proofs.Tryz.prog 143 0 = some (0, 1, false) := by kernel_rfl
theorem fo143_1 : fieldOf Go.Proofs.Tryz.prog 143 1 = some (1, 6, true) := by kernel_rfl
theorem gu143 : Go.Proofs.Tryz.prog.eqGuardType Go.Proofs.Tryz.prog.depth 143 = false := by kernel_rfl
theorem fe143 : flatEq Go.Proofs.Tryz.prog 12 143 = some [.i, .i, .i, .i, .i, .i, .i] := by kernel_rfl
theorem sz103 : szOf Go.Proofs.Tryz.prog 103 = some 3 := by kernel_rfl
theorem ki103 : kinds Go.Proofs.Tryz.prog 12 103 = some [none, none, none] := by kernel_rfl
theorem ze103 : zeroOf Go.Proofs.Tryz.prog 103 = some [.v (vi 0), .v (vi 0), .v (vi 0)] := by kernel_rfl
theorem by103 : bytesOf Go.Proofs.Tryz.prog 103 = some 24 := by kernel_rfl
theorem ag103 : aggOf Go.Proofs.Tryz.prog 103 = some true := by kernel_rfl
theorem is103 : isStruct Go.Proofs.Tryz.prog 103 = true := by kernel_rfl
theorem fo103_0 : fieldOf Go.Proofs.Tryz.prog 103 0 = some (0, 1, false) := by kernel_rfl
theorem fo103_1 : fieldOf Go.Proofs.Tryz.prog 103 1 = some (1, 1, false) := by kernel_rfl
theorem fo103_2 : fieldOf Go.Proofs.Tryz.prog 103 2 = some (2, 1, false) := by kernel_rfl
theorem gu103 : Go.Proofs.Tryz.prog.eqGuardType Go.Proofs.Tryz.prog.depth 103 = false := by kernel_rfl
theorem fe103 : flatEq Go.Proofs.Tryz.prog 12 103 = some [.i, .i, .i] := by kernel_rfl
theorem sz28 : szOf Go.Proofs.Tryz.prog 28 = some 3 := by kernel_rfl
theorem ki28 : kinds Go.Proofs.Tryz.prog 12 28 = some [none, none, none] := by kernel_rfl
theorem ze28 : zeroOf Go.Proofs.Tryz.prog 28 = some [.v (vi 0), .v (vi 0), .v (vi 0)] := by kernel_rfl
theorem by28 : bytesOf Go.Proofs.Tryz.prog 28 = some 24 := by kernel_rfl
theorem ag28 : aggOf Go.Proofs.Tryz.prog 28 = some true := by kernel_rfl
theorem is28 : isStruct Go.Proofs.Tryz.prog 28 = true := by kernel_rfl
theorem fo28_0 : fieldOf Go.Proofs.Tryz.prog 28 0 = some (0, 1, false) := by kernel_rfl
theorem fo28_1 : fieldOf Go.Proofs.Tryz.prog 28 1 = some (1, 1, false) := by kernel_rfl
theorem fo28_2 : fieldOf Go.Proofs.Tryz.prog 28 2 = some (2, 1, false) := by kernel_rfl
theorem gu28 : Go.Proofs.Tryz.prog.eqGuardType Go.Proofs.Tryz.prog.depth 28 = false := by kernel_rfl
theorem fe28 : flatEq Go.Proofs.Tryz.prog 12 28 = some [.i, .i, .i] := by kernel_rfl
theorem sz93 : szOf Go.Proofs.Tryz.prog 93 = some 1 := by kernel_rfl
theorem ki93 : kinds Go.Proofs.Tryz.prog 12 93 = some [some 7] := by kernel_rfl
theorem ze93 : zeroOf Go.Proofs.Tryz.prog 93 = some [.s true 7 []] := by kernel_rfl
theorem by93 : bytesOf Go.Proofs.Tryz.prog 93 = some 24 := by kernel_rfl
theorem ag93 : aggOf Go.Proofs.Tryz.prog 93 = some false := by kernel_rfl
theorem el93 : elemOf Go.Proofs.Tryz.prog 93 = some 143 := by kernel_rfl
theorem un93 : Go.Proofs.Tryz.prog.underlying 93 = some (.slice 143) := by kernel_rfl
theorem sz29 : szOf Go.Proofs.Tryz.prog 29 = some 1 := by kernel_rfl
theorem ki29 : kinds Go.Proofs.Tryz.prog 12 29 = some [some 3] := by kernel_rfl
theorem ze29 : zeroOf Go.Proofs.Tryz.prog 29 = some [.s true 3 []] := by kernel_rfl
theorem by29 : bytesOf Go.Proofs.Tryz.prog 29 = some 24 := by kernel_rfl
theorem ag29 : aggOf Go.Proofs.Tryz.prog 29 = some false := by kernel_rfl
theorem el29 : elemOf Go.Proofs.Tryz.prog 29 = some 103 := by kernel_rfl
theorem un29 : Go.Proofs.Tryz.prog.underlying 29 = some (.slice 103) := by kernel_rfl
theorem sz92 : szOf Go.Proofs.Tryz.prog 92 = some 4 := by kernel_rfl
theorem ki92 : kinds Go.Proofs.Tryz.prog 12 92 = some [none, none, some 1, some 1] := by kernel_rfl
theorem ze92 : zeroOf Go.Proofs.Tryz.prog 92 = some [.v (vi 0), .v (vi 0), .s true 1 [], .s true 1 []] := by kernel_rfl
theorem by92 : bytesOf Go.Proofs.Tryz.prog 92 = some 64 := by kernel_rfl
theorem ag92 : aggOf Go.Proofs.Tryz.prog 92 = some true := by kernel_rfl
theorem is92 : isStruct Go.Proofs.Tryz.prog 92 = true := by kernel_rfl
theorem fo92_0 : fieldOf Go.Proofs.Tryz.prog 92 0 = some (0, 1, false) := by kernel_rfl
theorem fo92_1 : fieldOf Go.Proofs.Tryz.prog 92 1 = some (1, 1, false) := by kernel_rfl
theorem fo92_2 : fieldOf Go.Proofs.Tryz.prog 92 2 = some (2, 1, false) := by kernel_rfl
theorem fo92_3 : fieldOf Go.Proofs.Tryz.prog 92 3 = some (3, 1, false) := by kernel_rfl
theorem sz24 : szOf Go.Proofs.Tryz.prog 24 = some 1 := by kernel_rfl
theorem ki24 : kinds Go.Proofs.Tryz.prog 12 24 = some [some 4] := by kernel_rfl
theorem ze24 : zeroOf Go.Proofs.Tryz.prog 24 = some [.s true 4 []] := by kernel_rfl
theorem by24 : bytesOf Go.Proofs.Tryz.prog 24 = some 24 := by kernel_rfl
theorem ag24 : aggOf Go.Proofs.Tryz.prog 24 = some false := by kernel_rfl
theorem el24 : elemOf Go.Proofs.Tryz.prog 24 = some 92 := by kernel_rfl
theorem un24 : Go.Proofs.Tryz.prog.underlying 24 = some (.slice 92) := by kernel_rfl
theorem sz26 : szOf Go.Proofs.Tryz.prog 26 = some 2 := by kernel_rfl
theorem ki26 : kinds Go.Proofs.Tryz.prog 12 26 = some [some 4, none] := by kernel_rfl
theorem ze26 : zeroOf Go.Proofs.Tryz.prog 26 = some [.s true 4 [], .v (vi 0)] := by kernel_rfl
theorem by26 : bytesOf Go.Proofs.Tryz.prog 26 = some 32 := by kernel_rfl
theorem ag26 : aggOf Go.Proofs.Tryz.prog 26 = some true := by kernel_rfl
theorem is26 : isStruct Go.Proofs.Tryz.prog 26 = true := by kernel_rfl
theorem fo26_0 : fieldOf Go.Proofs.Tryz.prog 26 0 = some (0, 1, false) := by kernel_rfl
theorem fo26_1 : fieldOf Go.Proofs.Tryz.prog 26 1 = some (1, 1, false) := by kernel_rfl
theorem sz95 : szOf Go.Proofs.Tryz.prog 95 = some 12 := by kernel_rfl
theorem ki95 : kinds Go.Proofs.Tryz.prog 12 95 = some [none, none, none, none, none, none, some 1, some 1, none, some 7, none, some 7] := by kernel_rfl
theorem ze95 : zeroOf Go.Proofs.Tryz.prog 95 = some [.v (.bool false), .v (.bool false), .v (vi 0), .v (vi 0), .v (vi 0), .v (vi 0), .s true 1 [], .s true 1 [], .v (vi 0), .s true 7 [], .v (vi 0), .s true 7 []] := by kernel_rfl
theorem by95 : bytesOf Go.Proofs.Tryz.prog 95 = some 152 := by kernel_rfl
theorem ag95 : aggOf Go.Proofs.Tryz.prog 95 = some true := by kernel_rfl
theorem is95 : isStruct Go.Proofs.Tryz.prog 95 = true := by kernel_rfl
theorem fo95_0 : fieldOf Go.Proofs.Tryz.prog 95 0 = some (0, 1, false) := by kernel_rfl
theorem fo95_1 : fieldOf Go.Proofs.Tryz.prog 95 1 = some (1, 1, false) := by kernel_rfl
theorem fo95_2 : fieldOf Go.Proofs.Tryz.prog 95 2 = some (2, 1, false) := by kernel_rfl
theorem fo95_3 : fieldOf Go.Proofs.Tryz.prog 95 3 = some (3, 1, false) := by kernel_rfl
theorem fo95_4 : fieldOf Go.Proofs.Tryz.prog 95 4 = some (4, 4, true) := by kernel_rfl
theorem fo95_5 : fieldOf Go.Proofs.Tryz.prog 95 5 = some (8, 1, false) := by kernel_rfl
theorem fo95_6 : fieldOf Go.Proofs.Tryz.prog 95 6 = some (9, 1, false) := by kernel_rfl
theorem fo95_7 : fieldOf Go.Proofs.Tryz.prog 95 7 = some (10, 1, false) := by kernel_rfl
theorem fo95_8 : fieldOf Go.Proofs.Tryz.prog 95 8 = some (11, 1, false) := by kernel_rfl
theorem sz22 : szOf Go.Proofs.Tryz.prog 22 = some 1 := by kernel_rfl
theorem ki22 : kinds Go.Proofs.Tryz.prog 12 22 = some [some 12] := by kernel_rfl
theorem ze22 : zeroOf Go.Proofs.Tryz.prog 22 = some [.s true 12 []] := by kernel_rfl
theorem by22 : bytesOf Go.Proofs.Tryz.prog 22 = some 24 := by kernel_rfl
theorem ag22 : aggOf Go.Proofs.Tryz.prog 22 = some false := by kernel_rfl
theorem el22 : elemOf Go.Proofs.Tryz.prog 22 = some 95 := by kernel_rfl
theorem un22 : Go.Proofs.Tryz.prog.underlying 22 = some (.slice 95) := by kernel_rfl
theorem sz31 : szOf Go.Proofs.Tryz.prog 31 = some 10 := by kernel_rfl
theorem ki31 : kinds Go.Proofs.Tryz.prog 12 31 = some [none, some 12, some 1, some 4, none, none, none, none, none, some 3] := by kernel_rfl
theorem ze31 : zeroOf Go.Proofs.Tryz.prog 31 = some [.v (vi 0), .s true 12 [], .s true 1 [], .s true 4 [], .v (vi 0), .v (vi 0), .v (vi 0), .v (vi 0), .v (vi 0), .s true 3 []] := by kernel_rfl
theorem by31 : bytesOf Go.Proofs.Tryz.prog 31 = some 144 := by kernel_rfl
theorem ag31 : aggOf Go.Proofs.Tryz.prog 31 = some true := by kernel_rfl
theorem is31 : isStruct Go.Proofs.Tryz.prog 31 = true := by kernel_rfl
theorem fo31_0 : fieldOf Go.Proofs.Tryz.prog 31 0 = some (0, 1, false) := by kernel_rfl
theorem fo31_1 : fieldOf Go.Proofs.Tryz.prog 31 1 = some (1, 1, false) := by kernel_rfl
theorem fo31_2 : fieldOf Go.Proofs.Tryz.prog 31 2 = some (2, 1, false) := by kernel_rfl
theorem fo31_3 : fieldOf Go.Proofs.Tryz.prog 31 3 = some (3, 2, true) := by kernel_rfl
theorem fo31_4 : fieldOf Go.Proofs.Tryz.prog 31 4 = some (5, 1, false) := by kernel_rfl
theorem fo31_5 : fieldOf Go.Proofs.Tryz.prog 31 5 = some (6, 3, true) := by kernel_rfl
theorem fo31_6 : fieldOf Go.Proofs.Tryz.prog 31 6 = some (9, 1, false) := by kernel_rfl
theorem un9 : Go.Proofs.Tryz.prog.underlying 9 = some .string := by kernel_rfl
theorem eln9 : elemOf Go.Proofs.Tryz.prog 9 = none := by kernel_rfl
theorem un5 : Go.Proofs.Tryz.prog.underlying 5 = some (.int .u8) := by kernel_rfl
theorem un156 : Go.Proofs.Tryz.prog.underlying 156 = some (.slice 5) := by kernel_rfl
theorem el156 : elemOf Go.Proofs.Tryz.prog 156 = some 5 := by kernel_rfl
theorem ki5 : kinds Go.Proofs.Tryz.prog 12 5 = some [none] := by kernel_rfl
theorem sz5 : szOf Go.Proofs.Tryz.prog 5 = some 1 := by kernel_rfl
theorem ze5 : zeroOf Go.Proofs.Tryz.prog 5 = some [.v (.int .u8 0)] := by kernel_rfl
theorem ki9 : kinds Go.Proofs.Tryz.prog 12 9 = some [none] := by kernel_rfl
theorem sz9 : szOf Go.Proofs.Tryz.prog 9 = some 1 := by kernel_rfl
theorem ze9 : zeroOf Go.Proofs.Tryz.prog 9 = some [.v (.string ⟨#[]⟩)] := by kernel_rfl
theorem by9 : bytesOf Go.Proofs.Tryz.prog 9 = some 16 := by kernel_rfl
theorem ag9 : aggOf Go.Proofs.Tryz.prog 9 = some false := by kernel_rfl
theorem el149 : elemOf Go.Proofs.Tryz.prog 149 = some 9 := by kernel_rfl
theorem by149 : bytesOf Go.Proofs.Tryz.prog 149 = some 24 := by kernel_rfl
theorem sz2 : szOf Go.Proofs.Tryz.prog 2 = some 1 := by kernel_rfl
theorem ki2 : kinds Go.Proofs.Tryz.prog 12 2 = some [none] := by kernel_rfl
theorem ze2 : zeroOf Go.Proofs.Tryz.prog 2 = some [.v (vi 0)] := by kernel_rfl
theorem by2 : bytesOf Go.Proofs.Tryz.prog 2 = some 8 := by kernel_rfl
theorem ag2 : aggOf Go.Proofs.Tryz.prog 2 = some false := by kernel_rfl
theorem sz149 : szOf Go.Proofs.Tryz.prog 149 = some 1 := by kernel_rfl
theorem ki149 : kinds Go.Proofs.Tryz.prog 12 149 = some [some 1] := by kernel_rfl
theorem ze149 : zeroOf Go.Proofs.Tryz.prog 149 = some [.s true 1 []] := by kernel_rfl
theorem ag149 : aggOf Go.Proofs.Tryz.prog 149 = some false := by kernel_rfl
theorem un149 : Go.Proofs.Tryz.prog.underlying 149 = some (.slice 9) := by kernel_rfl
theorem sz89 : szOf Go.Proofs.Tryz.prog 89 = some 1 := by kernel_rfl
theorem ki89 : kinds Go.Proofs.Tryz.prog 12 89 = some [some 2] := by kernel_rfl
theorem ze89 : zeroOf Go.Proofs.Tryz.prog 89 = some [.s true 2 []] := by kernel_rfl
theorem by89 : bytesOf Go.Proofs.Tryz.prog 89 = some 24 := by kernel_rfl
theorem ag89 : aggOf Go.Proofs.Tryz.prog 89 = some false := by kernel_rfl
theorem el89 : elemOf Go.Proofs.Tryz.prog 89 = some 124 := by kernel_rfl
theorem sz124 : szOf Go.Proofs.Tryz.prog 124 = some 2 := by kernel_rfl
theorem ki124 : kinds Go.Proofs.Tryz.prog 12 124 = some [none, none] := by kernel_rfl
theorem ze124 : zeroOf Go.Proofs.Tryz.prog 124 = some [.v (vi 0), .v (vi 0)] := by kernel_rfl
theorem by124 : bytesOf Go.Proofs.Tryz.prog 124 = some 16 := by kernel_rfl
theorem ag124 : aggOf Go.Proofs.Tryz.prog 124 = some true := by kernel_rfl
theorem is124 : isStruct Go.Proofs.Tryz.prog 124 = true := by kernel_rfl
theorem fo124_0 : fieldOf Go.Proofs.Tryz.prog 124 0 = some (0, 1, false) := by kernel_rfl
theorem fo124_1 : fieldOf Go.Proofs.Tryz.prog 124 1 = some (1, 1, false) := by kernel_rfl
theorem gu124 : Go.Proofs.Tryz.prog.eqGuardType Go.Proofs.Tryz.prog.depth 124 = false := by kernel_rfl
theorem fe124 : flatEq Go.Proofs.Tryz.prog 12 124 = some [.i, .i] := by kernel_rfl
theorem un89 : Go.Proofs.Tryz.prog.underlying 89 = some (.slice 124) := by kernel_rfl
attribute [go_sem] sz3 ki3 ze3 by3 ag3 sz4 ki4 ze4 by4 ag4 un4 sz23 ki23 ze23 by23 ag23 el23 un23 sz83 ki83 ze83 by83 ag83 is83 fo83_0 fo83_1 fo83_2 fo83_3 fo83_4 fo83_5 gu83 fe83 sz85 ki85 ze85 by85 ag85 is85 fo85_0 fo85_1 gu85 fe85 sz56 ki56 ze56 by56 ag56 el56 un56 sz59 ki59 ze59 by59 ag59 is59 fo59_0 fo59_1 fo59_2 fo59_3 sz101 ki101 ze101 by101 ag101 is101 fo101_0 fo101_1 fo101_2 gu101 fe101 sz39 ki39 ze39 by39 ag39 el39 un39 sz35 ki35 ze35 by35 ag35 el35 un35 sz37 ki37 ze37 by37 ag37 is37 fo37_0 fo37_1 sz38 ki38 ze38 by38 ag38 is38 fo38_0 fo38_1 fo38_2 gu38 fe38 sz61 ki61 ze61 by61 ag61 is61 fo61_0 fo61_1 fo61_2 fo61_3 fo61_4 fo61_5 fo61_6 fo61_7 fo61_8 sz34 ki34 ze34 by34 ag34 el34 un34 sz41 ki41 ze41 by41 ag41 is41 fo41_0 fo41_1 fo41_2 fo41_3 fo41_4 fo41_5 fo41_6 un170 un186 ki170 ki186 un3 el3n sz141 ki141 ze141 by141 ag141 is141 fo141_0 fo141_1 fo141_2 fo141_3 fo141_4 fo141_5 gu141 fe141 sz143 ki143 ze143 by143 ag143 is143 fo143_0 fo143_1 gu143 fe143 sz103 ki103 ze103 by103 ag103 is103 fo103_0 fo103_1 fo103_2 gu103 fe103 sz28 ki28 ze28 by28 ag28 is28 fo28_0 fo28_1 fo28_2 gu28 fe28 sz93 ki93 ze93 by93 ag93 el93 un93 sz29 ki29 ze29 by29 ag29 el29 un29 sz92 ki92 ze92 by92 ag92 is92 fo92_0 fo92_1 fo92_2 fo92_3 sz24 ki24 ze24 by24 ag24 el24 un24 sz26 ki26 ze26 by26 ag26 is26 fo26_0 fo26_1 sz95 ki95 ze95 by95 ag95 is95 fo95_0 fo95_1 fo95_2 fo95_3 fo95_4 fo95_5 fo95_6 fo95_7 fo95_8 sz22 ki22 ze22 by22 ag22 el22 un22 sz31 ki31 ze31 by31 ag31 is31 fo31_0 fo31_1 fo31_2 fo31_3 fo31_4 fo31_5 fo31_6 un9 eln9 un5 un156 el156 ki5 sz5 ze5 ki9 sz9 ze9 by9 ag9 el149 by149 sz2 ki2 ze2 by2 ag2 sz149 ki149 ze149 ag149 un149 sz89 ki89 ze89 by89 ag89 el89 sz124 ki124 ze124 by124 ag124 is124 fo124_0 fo124_1 gu124 fe124 un89
end Go.Abs
