/- Facts about the program's types. No condition. -/
import Derived.Test.YtbjeefffnpjioaaGreatPlain
import Derived.KernelRfl
import Derived.Test.YtbjeefffnpjioaaGreatProg
set_option linter.unusedVariables false
set_option linter.unusedSimpArgs false
set_option linter.unnecessarySimpa false
set_option linter.constructorNameAsVariable false
set_option maxRecDepth 100000
namespace Go.Abs
open Go
theorem sz3 : szOf Go.Proofs.Tryz.prog 3 = some 1 := by kernel_rfl
theorem ki3 : kinds Go.Proofs.Tryz.prog 12 3 = some [none] := by kernel_rfl
theorem ze3 : zeroOf Go.Proofs.Tryz.prog 3 = some [.v (vi 0)] := by kernel_rfl
theorem by3 : bytesOf Go.Proofs.Tryz.prog 3 = some 8 := by kernel_rfl
theorem ag3 : aggOf Go.Proofs.Tryz.prog 3 = some false := by kernel_rfl
theorem sz4 : szOf Go.Proofs.Tryz.prog 4 = some 1 := by kernel_rfl
theorem ki4 : kinds Go.Proofs.Tryz.prog 12 4 = some [none] := by kernel_rfl
theorem ze4 : zeroOf Go.Proofs.Tryz.prog 4 = some [.v (.bool false)] := by kernel_rfl
theorem by4 : bytesOf Go.Proofs.Tryz.prog 4 = some 1 := by kernel_rfl
theorem ag4 : aggOf Go.Proofs.Tryz.prog 4 = some false := by kernel_rfl
theorem un4 : Go.Proofs.Tryz.prog.underlying 4 = some .bool := by kernel_rfl
theorem sz23 : szOf Go.Proofs.Tryz.prog 23 = some 1 := by kernel_rfl
theorem ki23 : kinds Go.Proofs.Tryz.prog 12 23 = some [some 1] := by kernel_rfl
theorem ze23 : zeroOf Go.Proofs.Tryz.prog 23 = some [.s true 1 []] := by kernel_rfl
theorem by23 : bytesOf Go.Proofs.Tryz.prog 23 = some 24 := by kernel_rfl
theorem ag23 : aggOf Go.Proofs.Tryz.prog 23 = some false := by kernel_rfl
theorem el23 : elemOf Go.Proofs.Tryz.prog 23 = some 3 := by kernel_rfl
theorem un23 : Go.Proofs.Tryz.prog.underlying 23 = some (.slice 3) := by kernel_rfl
theorem sz93 : szOf Go.Proofs.Tryz.prog 93 = some 6 := by kernel_rfl
theorem ki93 : kinds Go.Proofs.Tryz.prog 12 93 = some [none, none, none, none, none, none] := by kernel_rfl
theorem ze93 : zeroOf Go.Proofs.Tryz.prog 93 = some [.v (vi 0), .v (vi 0), .v (vi 0), .v (vi 0), .v (vi 0), .v (vi 0)] := by kernel_rfl
theorem by93 : bytesOf Go.Proofs.Tryz.prog 93 = some 48 := by kernel_rfl
theorem ag93 : aggOf Go.Proofs.Tryz.prog 93 = some true := by kernel_rfl
theorem is93 : isStruct Go.Proofs.Tryz.prog 93 = true := by kernel_rfl
theorem fo93_0 : fieldOf Go.Proofs.Tryz.prog 93 0 = some (0, 1, false) := by kernel_rfl
theorem fo93_1 : fieldOf Go.Proofs.Tryz.prog 93 1 = some (1, 1, false) := by kernel_rfl
theorem fo93_2 : fieldOf Go.Proofs.Tryz.prog 93 2 = some (2, 1, false) := by kernel_rfl
theorem fo93_3 : fieldOf Go.Proofs.Tryz.prog 93 3 = some (3, 1, false) := by kernel_rfl
theorem fo93_4 : fieldOf Go.Proofs.Tryz.prog 93 4 = some (4, 1, false) := by kernel_rfl
theorem fo93_5 : fieldOf Go.Proofs.Tryz.prog 93 5 = some (5, 1, false) := by kernel_rfl
theorem gu93 : Go.Proofs.Tryz.prog.eqGuardType Go.Proofs.Tryz.prog.depth 93 = false := by kernel_rfl
theorem fe93 : flatEq Go.Proofs.Tryz.prog 12 93 = some [.i, .i, .i, .i, .i, .i] := by kernel_rfl
theorem sz46 : szOf Go.Proofs.Tryz.prog 46 = some 1 := by kernel_rfl
theorem ki46 : kinds Go.Proofs.Tryz.prog 12 46 = some [some 7] := by kernel_rfl
theorem ze46 : zeroOf Go.Proofs.Tryz.prog 46 = some [.s true 7 []] := by kernel_rfl
theorem by46 : bytesOf Go.Proofs.Tryz.prog 46 = some 24 := by kernel_rfl
theorem ag46 : aggOf Go.Proofs.Tryz.prog 46 = some false := by kernel_rfl
theorem el46 : elemOf Go.Proofs.Tryz.prog 46 = some 95 := by kernel_rfl
theorem sz95 : szOf Go.Proofs.Tryz.prog 95 = some 7 := by kernel_rfl
theorem ki95 : kinds Go.Proofs.Tryz.prog 12 95 = some [none, none, none, none, none, none, none] := by kernel_rfl
theorem ze95 : zeroOf Go.Proofs.Tryz.prog 95 = some [.v (vi 0), .v (vi 0), .v (vi 0), .v (vi 0), .v (vi 0), .v (vi 0), .v (vi 0)] := by kernel_rfl
theorem by95 : bytesOf Go.Proofs.Tryz.prog 95 = some 56 := by kernel_rfl
theorem ag95 : aggOf Go.Proofs.Tryz.prog 95 = some true := by kernel_rfl
theorem is95 : isStruct Go.Proofs.Tryz.prog 95 = true := by kernel_rfl
theorem fo95_0 : fieldOf Go.Proofs.Tryz.prog 95 0 = some (0, 1, false) := by kernel_rfl
theorem fo95_1 : fieldOf Go.Proofs.Tryz.prog 95 1 = some (1, 6, true) := by kernel_rfl
theorem gu95 : Go.Proofs.Tryz.prog.eqGuardType Go.Proofs.Tryz.prog.depth 95 = false := by kernel_rfl
theorem fe95 : flatEq Go.Proofs.Tryz.prog 12 95 = some [.i, .i, .i, .i, .i, .i, .i] := by kernel_rfl
theorem un46 : Go.Proofs.Tryz.prog.underlying 46 = some (.slice 95) := by kernel_rfl
theorem sz56 : szOf Go.Proofs.Tryz.prog 56 = some 4 := by kernel_rfl
theorem ki56 : kinds Go.Proofs.Tryz.prog 12 56 = some [none, none, some 1, some 1] := by kernel_rfl
theorem ze56 : zeroOf Go.Proofs.Tryz.prog 56 = some [.v (vi 0), .v (vi 0), .s true 1 [], .s true 1 []] := by kernel_rfl
theorem by56 : bytesOf Go.Proofs.Tryz.prog 56 = some 64 := by kernel_rfl
theorem ag56 : aggOf Go.Proofs.Tryz.prog 56 = some true := by kernel_rfl
theorem is56 : isStruct Go.Proofs.Tryz.prog 56 = true := by kernel_rfl
theorem fo56_0 : fieldOf Go.Proofs.Tryz.prog 56 0 = some (0, 1, false) := by kernel_rfl
theorem fo56_1 : fieldOf Go.Proofs.Tryz.prog 56 1 = some (1, 1, false) := by kernel_rfl
theorem fo56_2 : fieldOf Go.Proofs.Tryz.prog 56 2 = some (2, 1, false) := by kernel_rfl
theorem fo56_3 : fieldOf Go.Proofs.Tryz.prog 56 3 = some (3, 1, false) := by kernel_rfl
theorem sz129 : szOf Go.Proofs.Tryz.prog 129 = some 3 := by kernel_rfl
theorem ki129 : kinds Go.Proofs.Tryz.prog 12 129 = some [none, none, none] := by kernel_rfl
theorem ze129 : zeroOf Go.Proofs.Tryz.prog 129 = some [.v (vi 0), .v (vi 0), .v (vi 0)] := by kernel_rfl
theorem by129 : bytesOf Go.Proofs.Tryz.prog 129 = some 24 := by kernel_rfl
theorem ag129 : aggOf Go.Proofs.Tryz.prog 129 = some true := by kernel_rfl
theorem is129 : isStruct Go.Proofs.Tryz.prog 129 = true := by kernel_rfl
theorem fo129_0 : fieldOf Go.Proofs.Tryz.prog 129 0 = some (0, 1, false) := by kernel_rfl
theorem fo129_1 : fieldOf Go.Proofs.Tryz.prog 129 1 = some (1, 1, false) := by kernel_rfl
theorem fo129_2 : fieldOf Go.Proofs.Tryz.prog 129 2 = some (2, 1, false) := by kernel_rfl
theorem gu129 : Go.Proofs.Tryz.prog.eqGuardType Go.Proofs.Tryz.prog.depth 129 = false := by kernel_rfl
theorem fe129 : flatEq Go.Proofs.Tryz.prog 12 129 = some [.i, .i, .i] := by kernel_rfl
theorem sz38 : szOf Go.Proofs.Tryz.prog 38 = some 1 := by kernel_rfl
theorem ki38 : kinds Go.Proofs.Tryz.prog 12 38 = some [some 3] := by kernel_rfl
theorem ze38 : zeroOf Go.Proofs.Tryz.prog 38 = some [.s true 3 []] := by kernel_rfl
theorem by38 : bytesOf Go.Proofs.Tryz.prog 38 = some 24 := by kernel_rfl
theorem ag38 : aggOf Go.Proofs.Tryz.prog 38 = some false := by kernel_rfl
theorem el38 : elemOf Go.Proofs.Tryz.prog 38 = some 129 := by kernel_rfl
theorem un38 : Go.Proofs.Tryz.prog.underlying 38 = some (.slice 129) := by kernel_rfl
theorem sz34 : szOf Go.Proofs.Tryz.prog 34 = some 1 := by kernel_rfl
theorem ki34 : kinds Go.Proofs.Tryz.prog 12 34 = some [some 4] := by kernel_rfl
theorem ze34 : zeroOf Go.Proofs.Tryz.prog 34 = some [.s true 4 []] := by kernel_rfl
theorem by34 : bytesOf Go.Proofs.Tryz.prog 34 = some 24 := by kernel_rfl
theorem ag34 : aggOf Go.Proofs.Tryz.prog 34 = some false := by kernel_rfl
theorem el34 : elemOf Go.Proofs.Tryz.prog 34 = some 56 := by kernel_rfl
theorem un34 : Go.Proofs.Tryz.prog.underlying 34 = some (.slice 56) := by kernel_rfl
theorem sz36 : szOf Go.Proofs.Tryz.prog 36 = some 2 := by kernel_rfl
theorem ki36 : kinds Go.Proofs.Tryz.prog 12 36 = some [some 4, none] := by kernel_rfl
theorem ze36 : zeroOf Go.Proofs.Tryz.prog 36 = some [.s true 4 [], .v (vi 0)] := by kernel_rfl
theorem by36 : bytesOf Go.Proofs.Tryz.prog 36 = some 32 := by kernel_rfl
theorem ag36 : aggOf Go.Proofs.Tryz.prog 36 = some true := by kernel_rfl
theorem is36 : isStruct Go.Proofs.Tryz.prog 36 = true := by kernel_rfl
theorem fo36_0 : fieldOf Go.Proofs.Tryz.prog 36 0 = some (0, 1, false) := by kernel_rfl
theorem fo36_1 : fieldOf Go.Proofs.Tryz.prog 36 1 = some (1, 1, false) := by kernel_rfl
theorem sz37 : szOf Go.Proofs.Tryz.prog 37 = some 3 := by kernel_rfl
theorem ki37 : kinds Go.Proofs.Tryz.prog 12 37 = some [none, none, none] := by kernel_rfl
theorem ze37 : zeroOf Go.Proofs.Tryz.prog 37 = some [.v (vi 0), .v (vi 0), .v (vi 0)] := by kernel_rfl
theorem by37 : bytesOf Go.Proofs.Tryz.prog 37 = some 24 := by kernel_rfl
theorem ag37 : aggOf Go.Proofs.Tryz.prog 37 = some true := by kernel_rfl
theorem is37 : isStruct Go.Proofs.Tryz.prog 37 = true := by kernel_rfl
theorem fo37_0 : fieldOf Go.Proofs.Tryz.prog 37 0 = some (0, 1, false) := by kernel_rfl
theorem fo37_1 : fieldOf Go.Proofs.Tryz.prog 37 1 = some (1, 1, false) := by kernel_rfl
theorem fo37_2 : fieldOf Go.Proofs.Tryz.prog 37 2 = some (2, 1, false) := by kernel_rfl
theorem gu37 : Go.Proofs.Tryz.prog.eqGuardType Go.Proofs.Tryz.prog.depth 37 = false := by kernel_rfl
theorem fe37 : flatEq Go.Proofs.Tryz.prog 12 37 = some [.i, .i, .i] := by kernel_rfl
theorem sz73 : szOf Go.Proofs.Tryz.prog 73 = some 12 := by kernel_rfl
theorem ki73 : kinds Go.Proofs.Tryz.prog 12 73 = some [none, none, none, none, none, none, some 1, some 1, none, some 7, none, some 7] := by kernel_rfl
theorem ze73 : zeroOf Go.Proofs.Tryz.prog 73 = some [.v (.bool false), .v (.bool false), .v (vi 0), .v (vi 0), .v (vi 0), .v (vi 0), .s true 1 [], .s true 1 [], .v (vi 0), .s true 7 [], .v (vi 0), .s true 7 []] := by kernel_rfl
theorem by73 : bytesOf Go.Proofs.Tryz.prog 73 = some 152 := by kernel_rfl
theorem ag73 : aggOf Go.Proofs.Tryz.prog 73 = some true := by kernel_rfl
theorem is73 : isStruct Go.Proofs.Tryz.prog 73 = true := by kernel_rfl
theorem fo73_0 : fieldOf Go.Proofs.Tryz.prog 73 0 = some (0, 1, false) := by kernel_rfl
theorem fo73_1 : fieldOf Go.Proofs.Tryz.prog 73 1 = some (1, 1, false) := by kernel_rfl
theorem fo73_2 : fieldOf Go.Proofs.Tryz.prog 73 2 = some (2, 1, false) := by kernel_rfl
theorem fo73_3 : fieldOf Go.Proofs.Tryz.prog 73 3 = some (3, 1, false) := by kernel_rfl
theorem fo73_4 : fieldOf Go.Proofs.Tryz.prog 73 4 = some (4, 4, true) := by kernel_rfl
theorem fo73_5 : fieldOf Go.Proofs.Tryz.prog 73 5 = some (8, 1, false) := by kernel_rfl
theorem fo73_6 : fieldOf Go.Proofs.Tryz.prog 73 6 = some (9, 1, false) := by kernel_rfl
theorem fo73_7 : fieldOf Go.Proofs.Tryz.prog 73 7 = some (10, 1, false) := by kernel_rfl
theorem fo73_8 : fieldOf Go.Proofs.Tryz.prog 73 8 = some (11, 1, false) := by kernel_rfl
theorem sz33 : szOf Go.Proofs.Tryz.prog 33 = some 1 := by kernel_rfl
theorem ki33 : kinds Go.Proofs.Tryz.prog 12 33 = some [some 12] := by kernel_rfl
theorem ze33 : zeroOf Go.Proofs.Tryz.prog 33 = some [.s true 12 []] := by kernel_rfl
theorem by33 : bytesOf Go.Proofs.Tryz.prog 33 = some 24 := by kernel_rfl
theorem ag33 : aggOf Go.Proofs.Tryz.prog 33 = some false := by kernel_rfl
theorem el33 : elemOf Go.Proofs.Tryz.prog 33 = some 73 := by kernel_rfl
theorem un33 : Go.Proofs.Tryz.prog.underlying 33 = some (.slice 73) := by kernel_rfl
theorem sz40 : szOf Go.Proofs.Tryz.prog 40 = some 10 := by kernel_rfl
theorem ki40 : kinds Go.Proofs.Tryz.prog 12 40 = some [none, some 12, some 1, some 4, none, none, none, none, none, some 3] := by kernel_rfl
theorem ze40 : zeroOf Go.Proofs.Tryz.prog 40 = some [.v (vi 0), .s true 12 [], .s true 1 [], .s true 4 [], .v (vi 0), .v (vi 0), .v (vi 0), .v (vi 0), .v (vi 0), .s true 3 []] := by kernel_rfl
theorem by40 : bytesOf Go.Proofs.Tryz.prog 40 = some 144 := by kernel_rfl
theorem ag40 : aggOf Go.Proofs.Tryz.prog 40 = some true := by kernel_rfl
theorem is40 : isStruct Go.Proofs.Tryz.prog 40 = true := by kernel_rfl
theorem fo40_0 : fieldOf Go.Proofs.Tryz.prog 40 0 = some (0, 1, false) := by kernel_rfl
theorem fo40_1 : fieldOf Go.Proofs.Tryz.prog 40 1 = some (1, 1, false) := by kernel_rfl
theorem fo40_2 : fieldOf Go.Proofs.Tryz.prog 40 2 = some (2, 1, false) := by kernel_rfl
theorem fo40_3 : fieldOf Go.Proofs.Tryz.prog 40 3 = some (3, 2, true) := by kernel_rfl
theorem fo40_4 : fieldOf Go.Proofs.Tryz.prog 40 4 = some (5, 1, false) := by kernel_rfl
theorem fo40_5 : fieldOf Go.Proofs.Tryz.prog 40 5 = some (6, 3, true) := by kernel_rfl
theorem fo40_6 : fieldOf Go.Proofs.Tryz.prog 40 6 = some (9, 1, false) := by kernel_rfl
theorem un167 : Go.Proofs.Tryz.prog.underlying 167 = some (.int .u64) := by kernel_rfl
theorem un180 : Go.Proofs.Tryz.prog.underlying 180 = some (.int .u64) := by kernel_rfl
theorem ki167 : kinds Go.Proofs.Tryz.prog 12 167 = some [none] := by kernel_rfl
theorem ki180 : kinds Go.Proofs.Tryz.prog 12 180 = some [none] := by kernel_rfl
theorem un3 : Go.Proofs.Tryz.prog.underlying 3 = some (.int .i64) := by kernel_rfl
theorem el3n : elemOf Go.Proofs.Tryz.prog 3 = none := by kernel_rfl
theorem sz164 : szOf Go.Proofs.Tryz.prog 164 = some 1 := by kernel_rfl
theorem ki164 : kinds Go.Proofs.Tryz.prog 12 164 = some [some 1] := by kernel_rfl
theorem ze164 : zeroOf Go.Proofs.Tryz.prog 164 = some [.s true 1 []] := by kernel_rfl
theorem by164 : bytesOf Go.Proofs.Tryz.prog 164 = some 24 := by kernel_rfl
theorem ag164 : aggOf Go.Proofs.Tryz.prog 164 = some false := by kernel_rfl
theorem el164 : elemOf Go.Proofs.Tryz.prog 164 = some 23 := by kernel_rfl
theorem un164 : Go.Proofs.Tryz.prog.underlying 164 = some (.slice 23) := by kernel_rfl
theorem sz156 : szOf Go.Proofs.Tryz.prog 156 = some 1 := by kernel_rfl
theorem ki156 : kinds Go.Proofs.Tryz.prog 12 156 = some [some 1] := by kernel_rfl
theorem ze156 : zeroOf Go.Proofs.Tryz.prog 156 = some [.s true 1 []] := by kernel_rfl
theorem by156 : bytesOf Go.Proofs.Tryz.prog 156 = some 24 := by kernel_rfl
theorem ag156 : aggOf Go.Proofs.Tryz.prog 156 = some false := by kernel_rfl
theorem el156 : elemOf Go.Proofs.Tryz.prog 156 = some 46 := by kernel_rfl
theorem un156 : Go.Proofs.Tryz.prog.underlying 156 = some (.slice 46) := by kernel_rfl
theorem sz160 : szOf Go.Proofs.Tryz.prog 160 = some 6 := by kernel_rfl
theorem ki160 : kinds Go.Proofs.Tryz.prog 12 160 = some [none, none, none, none, none, none] := by kernel_rfl
theorem ze160 : zeroOf Go.Proofs.Tryz.prog 160 = some [.v (vi 0), .v (vi 0), .v (vi 0), .v (vi 0), .v (vi 0), .v (vi 0)] := by kernel_rfl
theorem by160 : bytesOf Go.Proofs.Tryz.prog 160 = some 48 := by kernel_rfl
theorem ag160 : aggOf Go.Proofs.Tryz.prog 160 = some true := by kernel_rfl
theorem is160 : isStruct Go.Proofs.Tryz.prog 160 = true := by kernel_rfl
theorem fo160_0 : fieldOf Go.Proofs.Tryz.prog 160 0 = some (0, 1, false) := by kernel_rfl
theorem fo160_1 : fieldOf Go.Proofs.Tryz.prog 160 1 = some (1, 1, false) := by kernel_rfl
theorem fo160_2 : fieldOf Go.Proofs.Tryz.prog 160 2 = some (2, 1, false) := by kernel_rfl
theorem fo160_3 : fieldOf Go.Proofs.Tryz.prog 160 3 = some (3, 1, false) := by kernel_rfl
theorem fo160_4 : fieldOf Go.Proofs.Tryz.prog 160 4 = some (4, 1, false) := by kernel_rfl
theorem fo160_5 : fieldOf Go.Proofs.Tryz.prog 160 5 = some (5, 1, false) := by kernel_rfl
theorem gu160 : Go.Proofs.Tryz.prog.eqGuardType Go.Proofs.Tryz.prog.depth 160 = false := by kernel_rfl
theorem fe160 : flatEq Go.Proofs.Tryz.prog 12 160 = some [.i, .i, .i, .i, .i, .i] := by kernel_rfl
theorem sz162 : szOf Go.Proofs.Tryz.prog 162 = some 7 := by kernel_rfl
theorem ki162 : kinds Go.Proofs.Tryz.prog 12 162 = some [none, none, none, none, none, none, none] := by kernel_rfl
theorem ze162 : zeroOf Go.Proofs.Tryz.prog 162 = some [.v (vi 0), .v (vi 0), .v (vi 0), .v (vi 0), .v (vi 0), .v (vi 0), .v (vi 0)] := by kernel_rfl
theorem by162 : bytesOf Go.Proofs.Tryz.prog 162 = some 56 := by kernel_rfl
theorem ag162 : aggOf Go.Proofs.Tryz.prog 162 = some true := by kernel_rfl
theorem is162 : isStruct Go.Proofs.Tryz.prog 162 = true := by kernel_rfl
theorem fo162_0 : fieldOf Go.Proofs.Tryz.prog 162 0 = some (0, 1, false) := by kernel_rfl
theorem fo162_1 : fieldOf Go.Proofs.Tryz.prog 162 1 = some (1, 6, true) := by kernel_rfl
theorem gu162 : Go.Proofs.Tryz.prog.eqGuardType Go.Proofs.Tryz.prog.depth 162 = false := by kernel_rfl
theorem fe162 : flatEq Go.Proofs.Tryz.prog 12 162 = some [.i, .i, .i, .i, .i, .i, .i] := by kernel_rfl
theorem sz131 : szOf Go.Proofs.Tryz.prog 131 = some 3 := by kernel_rfl
theorem ki131 : kinds Go.Proofs.Tryz.prog 12 131 = some [none, none, none] := by kernel_rfl
theorem ze131 : zeroOf Go.Proofs.Tryz.prog 131 = some [.v (vi 0), .v (vi 0), .v (vi 0)] := by kernel_rfl
theorem by131 : bytesOf Go.Proofs.Tryz.prog 131 = some 24 := by kernel_rfl
theorem ag131 : aggOf Go.Proofs.Tryz.prog 131 = some true := by kernel_rfl
theorem is131 : isStruct Go.Proofs.Tryz.prog 131 = true := by kernel_rfl
theorem fo131_0 : fieldOf Go.Proofs.Tryz.prog 131 0 = some (0, 1, false) := by kernel_rfl
theorem fo131_1 : fieldOf Go.Proofs.Tryz.prog 131 1 = some (1, 1, false) := by kernel_rfl
theorem fo131_2 : fieldOf Go.Proofs.Tryz.prog 131 2 = some (2, 1, false) := by kernel_rfl
theorem gu131 : Go.Proofs.Tryz.prog.eqGuardType Go.Proofs.Tryz.prog.depth 131 = false := by kernel_rfl
theorem fe131 : flatEq Go.Proofs.Tryz.prog 12 131 = some [.i, .i, .i] := by kernel_rfl
theorem sz28 : szOf Go.Proofs.Tryz.prog 28 = some 3 := by kernel_rfl
theorem ki28 : kinds Go.Proofs.Tryz.prog 12 28 = some [none, none, none] := by kernel_rfl
theorem ze28 : zeroOf Go.Proofs.Tryz.prog 28 = some [.v (vi 0), .v (vi 0), .v (vi 0)] := by kernel_rfl
theorem by28 : bytesOf Go.Proofs.Tryz.prog 28 = some 24 := by kernel_rfl
theorem ag28 : aggOf Go.Proofs.Tryz.prog 28 = some true := by kernel_rfl
theorem is28 : isStruct Go.Proofs.Tryz.prog 28 = true := by kernel_rfl
theorem fo28_0 : fieldOf Go.Proofs.Tryz.prog 28 0 = some (0, 1, false) := by kernel_rfl
theorem fo28_1 : fieldOf Go.Proofs.Tryz.prog 28 1 = some (1, 1, false) := by kernel_rfl
theorem fo28_2 : fieldOf Go.Proofs.Tryz.prog 28 2 = some (2, 1, false) := by kernel_rfl
theorem gu28 : Go.Proofs.Tryz.prog.eqGuardType Go.Proofs.Tryz.prog.depth 28 = false := by kernel_rfl
theorem fe28 : flatEq Go.Proofs.Tryz.prog 12 28 = some [.i, .i, .i] := by kernel_rfl
theorem sz114 : szOf Go.Proofs.Tryz.prog 114 = some 1 := by kernel_rfl
theorem ki114 : kinds Go.Proofs.Tryz.prog 12 114 = some [some 7] := by kernel_rfl
theorem ze114 : zeroOf Go.Proofs.Tryz.prog 114 = some [.s true 7 []] := by kernel_rfl
theorem by114 : bytesOf Go.Proofs.Tryz.prog 114 = some 24 := by kernel_rfl
theorem ag114 : aggOf Go.Proofs.Tryz.prog 114 = some false := by kernel_rfl
theorem el114 : elemOf Go.Proofs.Tryz.prog 114 = some 162 := by kernel_rfl
theorem un114 : Go.Proofs.Tryz.prog.underlying 114 = some (.slice 162) := by kernel_rfl
theorem sz29 : szOf Go.Proofs.Tryz.prog 29 = some 1 := by kernel_rfl
theorem ki29 : kinds Go.Proofs.Tryz.prog 12 29 = some [some 3] := by kernel_rfl
theorem ze29 : zeroOf Go.Proofs.Tryz.prog 29 = some [.s true 3 []] := by kernel_rfl
theorem by29 : bytesOf Go.Proofs.Tryz.prog 29 = some 24 := by kernel_rfl
theorem ag29 : aggOf Go.Proofs.Tryz.prog 29 = some false := by kernel_rfl
theorem el29 : elemOf Go.Proofs.Tryz.prog 29 = some 131 := by kernel_rfl
theorem un29 : Go.Proofs.Tryz.prog.underlying 29 = some (.slice 131) := by kernel_rfl
theorem sz53 : szOf Go.Proofs.Tryz.prog 53 = some 4 := by kernel_rfl
theorem ki53 : kinds Go.Proofs.Tryz.prog 12 53 = some [none, none, some 1, some 1] := by kernel_rfl
theorem ze53 : zeroOf Go.Proofs.Tryz.prog 53 = some [.v (vi 0), .v (vi 0), .s true 1 [], .s true 1 []] := by kernel_rfl
theorem by53 : bytesOf Go.Proofs.Tryz.prog 53 = some 64 := by kernel_rfl
theorem ag53 : aggOf Go.Proofs.Tryz.prog 53 = some true := by kernel_rfl
theorem is53 : isStruct Go.Proofs.Tryz.prog 53 = true := by kernel_rfl
theorem fo53_0 : fieldOf Go.Proofs.Tryz.prog 53 0 = some (0, 1, false) := by kernel_rfl
theorem fo53_1 : fieldOf Go.Proofs.Tryz.prog 53 1 = some (1, 1, false) := by kernel_rfl
theorem fo53_2 : fieldOf Go.Proofs.Tryz.prog 53 2 = some (2, 1, false) := by kernel_rfl
theorem fo53_3 : fieldOf Go.Proofs.Tryz.prog 53 3 = some (3, 1, false) := by kernel_rfl
theorem sz24 : szOf Go.Proofs.Tryz.prog 24 = some 1 := by kernel_rfl
theorem ki24 : kinds Go.Proofs.Tryz.prog 12 24 = some [some 4] := by kernel_rfl
theorem ze24 : zeroOf Go.Proofs.Tryz.prog 24 = some [.s true 4 []] := by kernel_rfl
theorem by24 : bytesOf Go.Proofs.Tryz.prog 24 = some 24 := by kernel_rfl
theorem ag24 : aggOf Go.Proofs.Tryz.prog 24 = some false := by kernel_rfl
theorem el24 : elemOf Go.Proofs.Tryz.prog 24 = some 53 := by kernel_rfl
theorem un24 : Go.Proofs.Tryz.prog.underlying 24 = some (.slice 53) := by kernel_rfl
theorem sz26 : szOf Go.Proofs.Tryz.prog 26 = some 2 := by kernel_rfl
theorem ki26 : kinds Go.Proofs.Tryz.prog 12 26 = some [some 4, none] := by kernel_rfl
theorem ze26 : zeroOf Go.Proofs.Tryz.prog 26 = some [.s true 4 [], .v (vi 0)] := by kernel_rfl
theorem by26 : bytesOf Go.Proofs.Tryz.prog 26 = some 32 := by kernel_rfl
theorem ag26 : aggOf Go.Proofs.Tryz.prog 26 = some true := by kernel_rfl
theorem is26 : isStruct Go.Proofs.Tryz.prog 26 = true := by kernel_rfl
theorem fo26_0 : fieldOf Go.Proofs.Tryz.prog 26 0 = some (0, 1, false) := by kernel_rfl
theorem fo26_1 : fieldOf Go.Proofs.Tryz.prog 26 1 = some (1, 1, false) := by kernel_rfl
theorem sz116 : szOf Go.Proofs.Tryz.prog 116 = some 12 := by kernel_rfl
theorem ki116 : kinds Go.Proofs.Tryz.prog 12 116 = some [none, none, none, none, none, none, some 1, some 1, none, some 7, none, some 7] := by kernel_rfl
theorem ze116 : zeroOf Go.Proofs.Tryz.prog 116 = some [.v (.bool false), .v (.bool false), .v (vi 0), .v (vi 0), .v (vi 0), .v (vi 0), .s true 1 [], .s true 1 [], .v (vi 0), .s true 7 [], .v (vi 0), .s true 7 []] := by kernel_rfl
theorem by116 : bytesOf Go.Proofs.Tryz.prog 116 = some 152 := by kernel_rfl
theorem ag116 : aggOf Go.Proofs.Tryz.prog 116 = some true := by kernel_rfl
theorem is116 : isStruct Go.Proofs.Tryz.prog 116 = true := by kernel_rfl
theorem fo116_0 : fieldOf Go.Proofs.Tryz.prog 116 0 = some (0, 1, false) := by kernel_rfl
theorem fo116_1 : fieldOf Go.Proofs.Tryz.prog 116 1 = some (1, 1, false) := by kernel_rfl
theorem fo116_2 : fieldOf Go.Proofs.Tryz.prog 116 2 = some (2, 1, false) := by kernel_rfl
theorem fo116_3 : fieldOf Go.Proofs.Tryz.prog 116 3 = some (3, 1, false) := by kernel_rfl
theorem fo116_4 : fieldOf Go.Proofs.Tryz.prog 116 4 = some (4, 4, true) := by kernel_rfl
theorem fo116_5 : fieldOf Go.Proofs.Tryz.prog 116 5 = some (8, 1, false) := by kernel_rfl
theorem fo116_6 : fieldOf Go.Proofs.Tryz.prog 116 6 = some (9, 1, false) := by kernel_rfl
theorem fo116_7 : fieldOf Go.Proofs.Tryz.prog 116 7 = some (10, 1, false) := by kernel_rfl
theorem fo116_8 : fieldOf Go.Proofs.Tryz.prog 116 8 = some (11, 1, false) := by kernel_rfl
theorem sz22 : szOf Go.Proofs.Tryz.prog 22 = some 1 := by kernel_rfl
theorem ki22 : kinds Go.Proofs.Tryz.prog 12 22 = some [some 12] := by kernel_rfl
theorem ze22 : zeroOf Go.Proofs.Tryz.prog 22 = some [.s true 12 []] := by kernel_rfl
theorem by22 : bytesOf Go.Proofs.Tryz.prog 22 = some 24 := by kernel_rfl
theorem ag22 : aggOf Go.Proofs.Tryz.prog 22 = some false := by kernel_rfl
theorem el22 : elemOf Go.Proofs.Tryz.prog 22 = some 116 := by kernel_rfl
theorem un22 : Go.Proofs.Tryz.prog.underlying 22 = some (.slice 116) := by kernel_rfl
theorem sz31 : szOf Go.Proofs.Tryz.prog 31 = some 10 := by kernel_rfl
theorem ki31 : kinds Go.Proofs.Tryz.prog 12 31 = some [none, some 12, some 1, some 4, none, none, none, none, none, some 3] := by kernel_rfl
theorem ze31 : zeroOf Go.Proofs.Tryz.prog 31 = some [.v (vi 0), .s true 12 [], .s true 1 [], .s true 4 [], .v (vi 0), .v (vi 0), .v (vi 0), .v (vi 0), .v (vi 0), .s true 3 []] := by kernel_rfl
theorem by31 : bytesOf Go.Proofs.Tryz.prog 31 = some 144 := by kernel_rfl
theorem ag31 : aggOf Go.Proofs.Tryz.prog 31 = some true := by kernel_rfl
theorem is31 : isStruct Go.Proofs.Tryz.prog 31 = true := by kernel_rfl
theorem fo31_0 : fieldOf Go.Proofs.Tryz.prog 31 0 = some (0, 1, false) := by kernel_rfl
theorem fo31_1 : fieldOf Go.Proofs.Tryz.prog 31 1 = some (1, 1, false) := by kernel_rfl
theorem fo31_2 : fieldOf Go.Proofs.Tryz.prog 31 2 = some (2, 1, false) := by kernel_rfl
theorem fo31_3 : fieldOf Go.Proofs.Tryz.prog 31 3 = some (3, 2, true) := by kernel_rfl
theorem fo31_4 : fieldOf Go.Proofs.Tryz.prog 31 4 = some (5, 1, false) := by kernel_rfl
theorem fo31_5 : fieldOf Go.Proofs.Tryz.prog 31 5 = some (6, 3, true) := by kernel_rfl
theorem fo31_6 : fieldOf Go.Proofs.Tryz.prog 31 6 = some (9, 1, false) := by kernel_rfl
attribute [go_sem] sz3 ki3 ze3 by3 ag3 sz4 ki4 ze4 by4 ag4 un4 sz23 ki23 ze23 by23 ag23 el23 un23 sz93 ki93 ze93 by93 ag93 is93 fo93_0 fo93_1 fo93_2 fo93_3 fo93_4 fo93_5 gu93 fe93 sz46 ki46 ze46 by46 ag46 el46 sz95 ki95 ze95 by95 ag95 is95 fo95_0 fo95_1 gu95 fe95 un46 sz56 ki56 ze56 by56 ag56 is56 fo56_0 fo56_1 fo56_2 fo56_3 sz129 ki129 ze129 by129 ag129 is129 fo129_0 fo129_1 fo129_2 gu129 fe129 sz38 ki38 ze38 by38 ag38 el38 un38 sz34 ki34 ze34 by34 ag34 el34 un34 sz36 ki36 ze36 by36 ag36 is36 fo36_0 fo36_1 sz37 ki37 ze37 by37 ag37 is37 fo37_0 fo37_1 fo37_2 gu37 fe37 sz73 ki73 ze73 by73 ag73 is73 fo73_0 fo73_1 fo73_2 fo73_3 fo73_4 fo73_5 fo73_6 fo73_7 fo73_8 sz33 ki33 ze33 by33 ag33 el33 un33 sz40 ki40 ze40 by40 ag40 is40 fo40_0 fo40_1 fo40_2 fo40_3 fo40_4 fo40_5 fo40_6 un167 un180 ki167 ki180 un3 el3n sz164 ki164 ze164 by164 ag164 el164 un164 sz156 ki156 ze156 by156 ag156 el156 un156 sz160 ki160 ze160 by160 ag160 is160 fo160_0 fo160_1 fo160_2 fo160_3 fo160_4 fo160_5 gu160 fe160 sz162 ki162 ze162 by162 ag162 is162 fo162_0 fo162_1 gu162 fe162 sz131 ki131 ze131 by131 ag131 is131 fo131_0 fo131_1 fo131_2 gu131 fe131 sz28 ki28 ze28 by28 ag28 is28 fo28_0 fo28_1 fo28_2 gu28 fe28 sz114 ki114 ze114 by114 ag114 el114 un114 sz29 ki29 ze29 by29 ag29 el29 un29 sz53 ki53 ze53 by53 ag53 is53 fo53_0 fo53_1 fo53_2 fo53_3 sz24 ki24 ze24 by24 ag24 el24 un24 sz26 ki26 ze26 by26 ag26 is26 fo26_0 fo26_1 sz116 ki116 ze116 by116 ag116 is116 fo116_0 fo116_1 fo116_2 fo116_3 fo116_4 fo116_5 fo116_6 fo116_7 fo116_8 sz22 ki22 ze22 by22 ag22 el22 un22 sz31 ki31 ze31 by31 ag31 is31 fo31_0 fo31_1 fo31_2 fo31_3 fo31_4 fo31_5 fo31_6
end Go.Abs
