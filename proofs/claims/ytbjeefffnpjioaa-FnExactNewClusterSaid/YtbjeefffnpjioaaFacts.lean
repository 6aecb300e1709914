/- Facts about the program's types. No condition. -/
import Derived.Test.YtbjeefffnpjioaaPlain
import Derived.KernelRfl
import Derived.Test.YtbjeefffnpjioaaProg
set_option linter.unusedVariables false
set_option linter.unusedSimpArgs false
set_option linter.unnecessarySimpa false
set_option linter.constructorNameAsVariable false
set_option maxRecDepth 100000
namespace Go.Abs
open Go
theorem sz3 : szOf Go.Proofs.Try.prog 3 = some 1 := by kernel_rfl
theorem ki3 : kinds Go.Proofs.Try.prog 12 3 = some [none] := by kernel_rfl
theorem ze3 : zeroOf Go.Proofs.Try.prog 3 = some [.v (vi 0)] := by kernel_rfl
theorem by3 : bytesOf Go.Proofs.Try.prog 3 = some 8 := by kernel_rfl
theorem ag3 : aggOf Go.Proofs.Try.prog 3 = some false := by kernel_rfl
theorem sz4 : szOf Go.Proofs.Try.prog 4 = some 1 := by kernel_rfl
theorem ki4 : kinds Go.Proofs.Try.prog 12 4 = some [none] := by kernel_rfl
theorem ze4 : zeroOf Go.Proofs.Try.prog 4 = some [.v (.bool false)] := by kernel_rfl
theorem by4 : bytesOf Go.Proofs.Try.prog 4 = some 1 := by kernel_rfl
theorem ag4 : aggOf Go.Proofs.Try.prog 4 = some false := by kernel_rfl
theorem un4 : Go.Proofs.Try.prog.underlying 4 = some .bool := by kernel_rfl
theorem sz25 : szOf Go.Proofs.Try.prog 25 = some 1 := by kernel_rfl
theorem ki25 : kinds Go.Proofs.Try.prog 12 25 = some [some 1] := by kernel_rfl
theorem ze25 : zeroOf Go.Proofs.Try.prog 25 = some [.s true 1 []] := by kernel_rfl
theorem by25 : bytesOf Go.Proofs.Try.prog 25 = some 24 := by kernel_rfl
theorem ag25 : aggOf Go.Proofs.Try.prog 25 = some false := by kernel_rfl
theorem el25 : elemOf Go.Proofs.Try.prog 25 = some 3 := by kernel_rfl
theorem un25 : Go.Proofs.Try.prog.underlying 25 = some (.slice 3) := by kernel_rfl
theorem sz49 : szOf Go.Proofs.Try.prog 49 = some 3 := by kernel_rfl
theorem ki49 : kinds Go.Proofs.Try.prog 12 49 = some [none, none, none] := by kernel_rfl
theorem ze49 : zeroOf Go.Proofs.Try.prog 49 = some [.v (vi 0), .v (vi 0), .v (vi 0)] := by kernel_rfl
theorem by49 : bytesOf Go.Proofs.Try.prog 49 = some 24 := by kernel_rfl
theorem ag49 : aggOf Go.Proofs.Try.prog 49 = some true := by kernel_rfl
theorem is49 : isStruct Go.Proofs.Try.prog 49 = true := by kernel_rfl
theorem fo49_0 : fieldOf Go.Proofs.Try.prog 49 0 = some (0, 1, false) := by kernel_rfl
theorem fo49_1 : fieldOf Go.Proofs.Try.prog 49 1 = some (1, 1, false) := by kernel_rfl
theorem fo49_2 : fieldOf Go.Proofs.Try.prog 49 2 = some (2, 1, false) := by kernel_rfl
theorem gu49 : Go.Proofs.Try.prog.eqGuardType Go.Proofs.Try.prog.depth 49 = false := by kernel_rfl
theorem fe49 : flatEq Go.Proofs.Try.prog 12 49 = some [.i, .i, .i] := by kernel_rfl
theorem sz31 : szOf Go.Proofs.Try.prog 31 = some 1 := by kernel_rfl
theorem ki31 : kinds Go.Proofs.Try.prog 12 31 = some [some 3] := by kernel_rfl
theorem ze31 : zeroOf Go.Proofs.Try.prog 31 = some [.s true 3 []] := by kernel_rfl
theorem by31 : bytesOf Go.Proofs.Try.prog 31 = some 24 := by kernel_rfl
theorem ag31 : aggOf Go.Proofs.Try.prog 31 = some false := by kernel_rfl
theorem el31 : elemOf Go.Proofs.Try.prog 31 = some 49 := by kernel_rfl
theorem un31 : Go.Proofs.Try.prog.underlying 31 = some (.slice 49) := by kernel_rfl
theorem un3 : Go.Proofs.Try.prog.underlying 3 = some (.int .i64) := by kernel_rfl
theorem el3n : elemOf Go.Proofs.Try.prog 3 = none := by kernel_rfl
theorem sz46 : szOf Go.Proofs.Try.prog 46 = some 12 := by kernel_rfl
theorem ki46 : kinds Go.Proofs.Try.prog 12 46 = some [none, none, none, none, none, none, some 1, some 1, none, some 7, none, some 7] := by kernel_rfl
theorem ze46 : zeroOf Go.Proofs.Try.prog 46 = some [.v (.bool false), .v (.bool false), .v (vi 0), .v (vi 0), .v (vi 0), .v (vi 0), .s true 1 [], .s true 1 [], .v (vi 0), .s true 7 [], .v (vi 0), .s true 7 []] := by kernel_rfl
theorem by46 : bytesOf Go.Proofs.Try.prog 46 = some 152 := by kernel_rfl
theorem ag46 : aggOf Go.Proofs.Try.prog 46 = some true := by kernel_rfl
theorem is46 : isStruct Go.Proofs.Try.prog 46 = true := by kernel_rfl
theorem fo46_0 : fieldOf Go.Proofs.Try.prog 46 0 = some (0, 1, false) := by kernel_rfl
theorem fo46_1 : fieldOf Go.Proofs.Try.prog 46 1 = some (1, 1, false) := by kernel_rfl
theorem fo46_2 : fieldOf Go.Proofs.Try.prog 46 2 = some (2, 1, false) := by kernel_rfl
theorem fo46_3 : fieldOf Go.Proofs.Try.prog 46 3 = some (3, 1, false) := by kernel_rfl
theorem fo46_4 : fieldOf Go.Proofs.Try.prog 46 4 = some (4, 4, true) := by kernel_rfl
theorem fo46_5 : fieldOf Go.Proofs.Try.prog 46 5 = some (8, 1, false) := by kernel_rfl
theorem fo46_6 : fieldOf Go.Proofs.Try.prog 46 6 = some (9, 1, false) := by kernel_rfl
theorem fo46_7 : fieldOf Go.Proofs.Try.prog 46 7 = some (10, 1, false) := by kernel_rfl
theorem fo46_8 : fieldOf Go.Proofs.Try.prog 46 8 = some (11, 1, false) := by kernel_rfl
theorem sz51 : szOf Go.Proofs.Try.prog 51 = some 3 := by kernel_rfl
theorem ki51 : kinds Go.Proofs.Try.prog 12 51 = some [none, none, none] := by kernel_rfl
theorem ze51 : zeroOf Go.Proofs.Try.prog 51 = some [.v (vi 0), .v (vi 0), .v (vi 0)] := by kernel_rfl
theorem by51 : bytesOf Go.Proofs.Try.prog 51 = some 24 := by kernel_rfl
theorem ag51 : aggOf Go.Proofs.Try.prog 51 = some true := by kernel_rfl
theorem is51 : isStruct Go.Proofs.Try.prog 51 = true := by kernel_rfl
theorem fo51_0 : fieldOf Go.Proofs.Try.prog 51 0 = some (0, 1, false) := by kernel_rfl
theorem fo51_1 : fieldOf Go.Proofs.Try.prog 51 1 = some (1, 1, false) := by kernel_rfl
theorem fo51_2 : fieldOf Go.Proofs.Try.prog 51 2 = some (2, 1, false) := by kernel_rfl
theorem gu51 : Go.Proofs.Try.prog.eqGuardType Go.Proofs.Try.prog.depth 51 = false := by kernel_rfl
theorem fe51 : flatEq Go.Proofs.Try.prog 12 51 = some [.i, .i, .i] := by kernel_rfl
theorem sz22 : szOf Go.Proofs.Try.prog 22 = some 1 := by kernel_rfl
theorem ki22 : kinds Go.Proofs.Try.prog 12 22 = some [some 3] := by kernel_rfl
theorem ze22 : zeroOf Go.Proofs.Try.prog 22 = some [.s true 3 []] := by kernel_rfl
theorem by22 : bytesOf Go.Proofs.Try.prog 22 = some 24 := by kernel_rfl
theorem ag22 : aggOf Go.Proofs.Try.prog 22 = some false := by kernel_rfl
theorem el22 : elemOf Go.Proofs.Try.prog 22 = some 51 := by kernel_rfl
theorem un22 : Go.Proofs.Try.prog.underlying 22 = some (.slice 51) := by kernel_rfl
theorem sz72 : szOf Go.Proofs.Try.prog 72 = some 6 := by kernel_rfl
theorem ki72 : kinds Go.Proofs.Try.prog 12 72 = some [none, none, none, none, none, none] := by kernel_rfl
theorem ze72 : zeroOf Go.Proofs.Try.prog 72 = some [.v (vi 0), .v (vi 0), .v (vi 0), .v (vi 0), .v (vi 0), .v (vi 0)] := by kernel_rfl
theorem by72 : bytesOf Go.Proofs.Try.prog 72 = some 48 := by kernel_rfl
theorem ag72 : aggOf Go.Proofs.Try.prog 72 = some true := by kernel_rfl
theorem is72 : isStruct Go.Proofs.Try.prog 72 = true := by kernel_rfl
theorem fo72_0 : fieldOf Go.Proofs.Try.prog 72 0 = some (0, 1, false) := by kernel_rfl
theorem fo72_1 : fieldOf Go.Proofs.Try.prog 72 1 = some (1, 1, false) := by kernel_rfl
theorem fo72_2 : fieldOf Go.Proofs.Try.prog 72 2 = some (2, 1, false) := by kernel_rfl
theorem fo72_3 : fieldOf Go.Proofs.Try.prog 72 3 = some (3, 1, false) := by kernel_rfl
theorem fo72_4 : fieldOf Go.Proofs.Try.prog 72 4 = some (4, 1, false) := by kernel_rfl
theorem fo72_5 : fieldOf Go.Proofs.Try.prog 72 5 = some (5, 1, false) := by kernel_rfl
theorem gu72 : Go.Proofs.Try.prog.eqGuardType Go.Proofs.Try.prog.depth 72 = false := by kernel_rfl
theorem fe72 : flatEq Go.Proofs.Try.prog 12 72 = some [.i, .i, .i, .i, .i, .i] := by kernel_rfl
theorem sz74 : szOf Go.Proofs.Try.prog 74 = some 7 := by kernel_rfl
theorem ki74 : kinds Go.Proofs.Try.prog 12 74 = some [none, none, none, none, none, none, none] := by kernel_rfl
theorem ze74 : zeroOf Go.Proofs.Try.prog 74 = some [.v (vi 0), .v (vi 0), .v (vi 0), .v (vi 0), .v (vi 0), .v (vi 0), .v (vi 0)] := by kernel_rfl
theorem by74 : bytesOf Go.Proofs.Try.prog 74 = some 56 := by kernel_rfl
theorem ag74 : aggOf Go.Proofs.Try.prog 74 = some true := by kernel_rfl
theorem is74 : isStruct Go.Proofs.Try.prog 74 = true := by kernel_rfl
theorem fo74_0 : fieldOf Go.Proofs.Try.prog 74 0 = some (0, 1, false) := by kernel_rfl
theorem fo74_1 : fieldOf Go.Proofs.Try.prog 74 1 = some (1, 6, true) := by kernel_rfl
theorem gu74 : Go.Proofs.Try.prog.eqGuardType Go.Proofs.Try.prog.depth 74 = false := by kernel_rfl
theorem fe74 : flatEq Go.Proofs.Try.prog 12 74 = some [.i, .i, .i, .i, .i, .i, .i] := by kernel_rfl
theorem sz30 : szOf Go.Proofs.Try.prog 30 = some 3 := by kernel_rfl
theorem ki30 : kinds Go.Proofs.Try.prog 12 30 = some [none, none, none] := by kernel_rfl
theorem ze30 : zeroOf Go.Proofs.Try.prog 30 = some [.v (vi 0), .v (vi 0), .v (vi 0)] := by kernel_rfl
theorem by30 : bytesOf Go.Proofs.Try.prog 30 = some 24 := by kernel_rfl
theorem ag30 : aggOf Go.Proofs.Try.prog 30 = some true := by kernel_rfl
theorem is30 : isStruct Go.Proofs.Try.prog 30 = true := by kernel_rfl
theorem fo30_0 : fieldOf Go.Proofs.Try.prog 30 0 = some (0, 1, false) := by kernel_rfl
theorem fo30_1 : fieldOf Go.Proofs.Try.prog 30 1 = some (1, 1, false) := by kernel_rfl
theorem fo30_2 : fieldOf Go.Proofs.Try.prog 30 2 = some (2, 1, false) := by kernel_rfl
theorem gu30 : Go.Proofs.Try.prog.eqGuardType Go.Proofs.Try.prog.depth 30 = false := by kernel_rfl
theorem fe30 : flatEq Go.Proofs.Try.prog 12 30 = some [.i, .i, .i] := by kernel_rfl
theorem sz44 : szOf Go.Proofs.Try.prog 44 = some 1 := by kernel_rfl
theorem ki44 : kinds Go.Proofs.Try.prog 12 44 = some [some 7] := by kernel_rfl
theorem ze44 : zeroOf Go.Proofs.Try.prog 44 = some [.s true 7 []] := by kernel_rfl
theorem by44 : bytesOf Go.Proofs.Try.prog 44 = some 24 := by kernel_rfl
theorem ag44 : aggOf Go.Proofs.Try.prog 44 = some false := by kernel_rfl
theorem el44 : elemOf Go.Proofs.Try.prog 44 = some 74 := by kernel_rfl
theorem un44 : Go.Proofs.Try.prog.underlying 44 = some (.slice 74) := by kernel_rfl
theorem sz43 : szOf Go.Proofs.Try.prog 43 = some 4 := by kernel_rfl
theorem ki43 : kinds Go.Proofs.Try.prog 12 43 = some [none, none, some 1, some 1] := by kernel_rfl
theorem ze43 : zeroOf Go.Proofs.Try.prog 43 = some [.v (vi 0), .v (vi 0), .s true 1 [], .s true 1 []] := by kernel_rfl
theorem by43 : bytesOf Go.Proofs.Try.prog 43 = some 64 := by kernel_rfl
theorem ag43 : aggOf Go.Proofs.Try.prog 43 = some true := by kernel_rfl
theorem is43 : isStruct Go.Proofs.Try.prog 43 = true := by kernel_rfl
theorem fo43_0 : fieldOf Go.Proofs.Try.prog 43 0 = some (0, 1, false) := by kernel_rfl
theorem fo43_1 : fieldOf Go.Proofs.Try.prog 43 1 = some (1, 1, false) := by kernel_rfl
theorem fo43_2 : fieldOf Go.Proofs.Try.prog 43 2 = some (2, 1, false) := by kernel_rfl
theorem fo43_3 : fieldOf Go.Proofs.Try.prog 43 3 = some (3, 1, false) := by kernel_rfl
theorem sz26 : szOf Go.Proofs.Try.prog 26 = some 1 := by kernel_rfl
theorem ki26 : kinds Go.Proofs.Try.prog 12 26 = some [some 4] := by kernel_rfl
theorem ze26 : zeroOf Go.Proofs.Try.prog 26 = some [.s true 4 []] := by kernel_rfl
theorem by26 : bytesOf Go.Proofs.Try.prog 26 = some 24 := by kernel_rfl
theorem ag26 : aggOf Go.Proofs.Try.prog 26 = some false := by kernel_rfl
theorem el26 : elemOf Go.Proofs.Try.prog 26 = some 43 := by kernel_rfl
theorem un26 : Go.Proofs.Try.prog.underlying 26 = some (.slice 43) := by kernel_rfl
theorem sz28 : szOf Go.Proofs.Try.prog 28 = some 2 := by kernel_rfl
theorem ki28 : kinds Go.Proofs.Try.prog 12 28 = some [some 4, none] := by kernel_rfl
theorem ze28 : zeroOf Go.Proofs.Try.prog 28 = some [.s true 4 [], .v (vi 0)] := by kernel_rfl
theorem by28 : bytesOf Go.Proofs.Try.prog 28 = some 32 := by kernel_rfl
theorem ag28 : aggOf Go.Proofs.Try.prog 28 = some true := by kernel_rfl
theorem is28 : isStruct Go.Proofs.Try.prog 28 = true := by kernel_rfl
theorem fo28_0 : fieldOf Go.Proofs.Try.prog 28 0 = some (0, 1, false) := by kernel_rfl
theorem fo28_1 : fieldOf Go.Proofs.Try.prog 28 1 = some (1, 1, false) := by kernel_rfl
theorem sz24 : szOf Go.Proofs.Try.prog 24 = some 1 := by kernel_rfl
theorem ki24 : kinds Go.Proofs.Try.prog 12 24 = some [some 12] := by kernel_rfl
theorem ze24 : zeroOf Go.Proofs.Try.prog 24 = some [.s true 12 []] := by kernel_rfl
theorem by24 : bytesOf Go.Proofs.Try.prog 24 = some 24 := by kernel_rfl
theorem ag24 : aggOf Go.Proofs.Try.prog 24 = some false := by kernel_rfl
theorem el24 : elemOf Go.Proofs.Try.prog 24 = some 46 := by kernel_rfl
theorem un24 : Go.Proofs.Try.prog.underlying 24 = some (.slice 46) := by kernel_rfl
theorem sz33 : szOf Go.Proofs.Try.prog 33 = some 10 := by kernel_rfl
theorem ki33 : kinds Go.Proofs.Try.prog 12 33 = some [none, some 12, some 1, some 4, none, none, none, none, none, some 3] := by kernel_rfl
theorem ze33 : zeroOf Go.Proofs.Try.prog 33 = some [.v (vi 0), .s true 12 [], .s true 1 [], .s true 4 [], .v (vi 0), .v (vi 0), .v (vi 0), .v (vi 0), .v (vi 0), .s true 3 []] := by kernel_rfl
theorem by33 : bytesOf Go.Proofs.Try.prog 33 = some 144 := by kernel_rfl
theorem ag33 : aggOf Go.Proofs.Try.prog 33 = some true := by kernel_rfl
theorem is33 : isStruct Go.Proofs.Try.prog 33 = true := by kernel_rfl
theorem fo33_0 : fieldOf Go.Proofs.Try.prog 33 0 = some (0, 1, false) := by kernel_rfl
theorem fo33_1 : fieldOf Go.Proofs.Try.prog 33 1 = some (1, 1, false) := by kernel_rfl
theorem fo33_2 : fieldOf Go.Proofs.Try.prog 33 2 = some (2, 1, false) := by kernel_rfl
theorem fo33_3 : fieldOf Go.Proofs.Try.prog 33 3 = some (3, 2, true) := by kernel_rfl
theorem fo33_4 : fieldOf Go.Proofs.Try.prog 33 4 = some (5, 1, false) := by kernel_rfl
theorem fo33_5 : fieldOf Go.Proofs.Try.prog 33 5 = some (6, 3, true) := by kernel_rfl
theorem fo33_6 : fieldOf Go.Proofs.Try.prog 33 6 = some (9, 1, false) := by kernel_rfl
attribute [go_sem] sz3 ki3 ze3 by3 ag3 sz4 ki4 ze4 by4 ag4 un4 sz25 ki25 ze25 by25 ag25 el25 un25 sz49 ki49 ze49 by49 ag49 is49 fo49_0 fo49_1 fo49_2 gu49 fe49 sz31 ki31 ze31 by31 ag31 el31 un31 un3 el3n sz46 ki46 ze46 by46 ag46 is46 fo46_0 fo46_1 fo46_2 fo46_3 fo46_4 fo46_5 fo46_6 fo46_7 fo46_8 sz51 ki51 ze51 by51 ag51 is51 fo51_0 fo51_1 fo51_2 gu51 fe51 sz22 ki22 ze22 by22 ag22 el22 un22 sz72 ki72 ze72 by72 ag72 is72 fo72_0 fo72_1 fo72_2 fo72_3 fo72_4 fo72_5 gu72 fe72 sz74 ki74 ze74 by74 ag74 is74 fo74_0 fo74_1 gu74 fe74 sz30 ki30 ze30 by30 ag30 is30 fo30_0 fo30_1 fo30_2 gu30 fe30 sz44 ki44 ze44 by44 ag44 el44 un44 sz43 ki43 ze43 by43 ag43 is43 fo43_0 fo43_1 fo43_2 fo43_3 sz26 ki26 ze26 by26 ag26 el26 un26 sz28 ki28 ze28 by28 ag28 is28 fo28_0 fo28_1 sz24 ki24 ze24 by24 ag24 el24 un24 sz33 ki33 ze33 by33 ag33 is33 fo33_0 fo33_1 fo33_2 fo33_3 fo33_4 fo33_5 fo33_6
end Go.Abs
