/- Facts about the program's types. No condition. -/
import Derived.Test.YtandfgncjpgifaaGreatPlain
import Derived.KernelRfl
import Derived.Test.YtandfgncjpgifaaGreatProg
set_option linter.unusedVariables false
set_option linter.unusedSimpArgs false
set_option linter.unnecessarySimpa false
set_option linter.constructorNameAsVariable false
set_option maxRecDepth 100000
namespace Go.Abs
open Go
theorem sz3 : szOf Go.Proofs.Tryz.prog 3 = some 1 := by kernel_rfl
theorem ki3 : kinds Go.Proofs.Tryz.prog 12 3 = some [none] := by kernel_rfl
theorem ze3 : zeroOf Go.Proofs.Tryz.prog 3 = some [.v (vi 0)] := by kernel_rfl
theorem by3 : bytesOf Go.Proofs.Tryz.prog 3 = some 8 := by kernel_rfl
theorem ag3 : aggOf Go.Proofs.Tryz.prog 3 = some false := by kernel_rfl
theorem sz4 : szOf Go.Proofs.Tryz.prog 4 = some 1 := by kernel_rfl
theorem ki4 : kinds Go.Proofs.Tryz.prog 12 4 = some [none] := by kernel_rfl
theorem ze4 : zeroOf Go.Proofs.Tryz.prog 4 = some [.v (.bool false)] := by kernel_rfl
theorem by4 : bytesOf Go.Proofs.Tryz.prog 4 = some 1 := by kernel_rfl
theorem ag4 : aggOf Go.Proofs.Tryz.prog 4 = some false := by kernel_rfl
theorem un4 : Go.Proofs.Tryz.prog.underlying 4 = some .bool := by kernel_rfl
theorem sz23 : szOf Go.Proofs.Tryz.prog 23 = some 1 := by kernel_rfl
theorem ki23 : kinds Go.Proofs.Tryz.prog 12 23 = some [some 1] := by kernel_rfl
theorem ze23 : zeroOf Go.Proofs.Tryz.prog 23 = some [.s true 1 []] := by kernel_rfl
theorem by23 : bytesOf Go.Proofs.Tryz.prog 23 = some 24 := by kernel_rfl
theorem ag23 : aggOf Go.Proofs.Tryz.prog 23 = some false := by kernel_rfl
theorem el23 : elemOf Go.Proofs.Tryz.prog 23 = some 3 := by kernel_rfl
theorem un23 : Go.Proofs.Tryz.prog.underlying 23 = some (.slice 3) := by kernel_rfl
theorem sz125 : szOf Go.Proofs.Tryz.prog 125 = some 6 := by kernel_rfl
theorem ki125 : kinds Go.Proofs.Tryz.prog 12 125 = some [none, none, none, none, none, none] := by kernel_rfl
theorem ze125 : zeroOf Go.Proofs.Tryz.prog 125 = some [.v (vi 0), .v (vi 0), .v (vi 0), .v (vi 0), .v (vi 0), .v (vi 0)] := by kernel_rfl
theorem by125 : bytesOf Go.Proofs.Tryz.prog 125 = some 48 := by kernel_rfl
theorem ag125 : aggOf Go.Proofs.Tryz.prog 125 = some true := by kernel_rfl
theorem is125 : isStruct Go.Proofs.Tryz.prog 125 = true := by kernel_rfl
theorem fo125_0 : fieldOf Go.Proofs.Tryz.prog 125 0 = some (0, 1, false) := by kernel_rfl
theorem fo125_1 : fieldOf Go.Proofs.Tryz.prog 125 1 = some (1, 1, false) := by kernel_rfl
theorem fo125_2 : fieldOf Go.Proofs.Tryz.prog 125 2 = some (2, 1, false) := by kernel_rfl
theorem fo125_3 : fieldOf Go.Proofs.Tryz.prog 125 3 = some (3, 1, false) := by kernel_rfl
theorem fo125_4 : fieldOf Go.Proofs.Tryz.prog 125 4 = some (4, 1, false) := by kernel_rfl
theorem fo125_5 : fieldOf Go.Proofs.Tryz.prog 125 5 = some (5, 1, false) := by kernel_rfl
theorem gu125 : Go.Proofs.Tryz.prog.eqGuardType Go.Proofs.Tryz.prog.depth 125 = false := by kernel_rfl
theorem fe125 : flatEq Go.Proofs.Tryz.prog 12 125 = some [.i, .i, .i, .i, .i, .i] := by kernel_rfl
theorem sz64 : szOf Go.Proofs.Tryz.prog 64 = some 1 := by kernel_rfl
theorem ki64 : kinds Go.Proofs.Tryz.prog 12 64 = some [some 7] := by kernel_rfl
theorem ze64 : zeroOf Go.Proofs.Tryz.prog 64 = some [.s true 7 []] := by kernel_rfl
theorem by64 : bytesOf Go.Proofs.Tryz.prog 64 = some 24 := by kernel_rfl
theorem ag64 : aggOf Go.Proofs.Tryz.prog 64 = some false := by kernel_rfl
theorem el64 : elemOf Go.Proofs.Tryz.prog 64 = some 127 := by kernel_rfl
theorem sz127 : szOf Go.Proofs.Tryz.prog 127 = some 7 := by kernel_rfl
theorem ki127 : kinds Go.Proofs.Tryz.prog 12 127 = some [none, none, none, none, none, none, none] := by kernel_rfl
theorem ze127 : zeroOf Go.Proofs.Tryz.prog 127 = some [.v (vi 0), .v (vi 0), .v (vi 0), .v (vi 0), .v (vi 0), .v (vi 0), .v (vi 0)] := by kernel_rfl
theorem by127 : bytesOf Go.Proofs.Tryz.prog 127 = some 56 := by kernel_rfl
theorem ag127 : aggOf Go.Proofs.Tryz.prog 127 = some true := by kernel_rfl
theorem is127 : isStruct Go.Proofs.Tryz.prog 127 = true := by kernel_rfl
theorem fo127_0 : fieldOf Go.Proofs.Tryz.prog 127 0 = some (0, 1, false) := by kernel_rfl
theorem fo127_1 : fieldOf Go.Proofs.Tryz.prog 127 1 = some (1, 6, true) := by kernel_rfl
theorem gu127 : Go.Proofs.Tryz.prog.eqGuardType Go.Proofs.Tryz.prog.depth 127 = false := by kernel_rfl
theorem fe127 : flatEq Go.Proofs.Tryz.prog 12 127 = some [.i, .i, .i, .i, .i, .i, .i] := by kernel_rfl
theorem un64 : Go.Proofs.Tryz.prog.underlying 64 = some (.slice 127) := by kernel_rfl
theorem sz60 : szOf Go.Proofs.Tryz.prog 60 = some 4 := by kernel_rfl
theorem ki60 : kinds Go.Proofs.Tryz.prog 12 60 = some [none, none, some 1, some 1] := by kernel_rfl
theorem ze60 : zeroOf Go.Proofs.Tryz.prog 60 = some [.v (vi 0), .v (vi 0), .s true 1 [], .s true 1 []] := by kernel_rfl
theorem by60 : bytesOf Go.Proofs.Tryz.prog 60 = some 64 := by kernel_rfl
theorem ag60 : aggOf Go.Proofs.Tryz.prog 60 = some true := by kernel_rfl
theorem is60 : isStruct Go.Proofs.Tryz.prog 60 = true := by kernel_rfl
theorem fo60_0 : fieldOf Go.Proofs.Tryz.prog 60 0 = some (0, 1, false) := by kernel_rfl
theorem fo60_1 : fieldOf Go.Proofs.Tryz.prog 60 1 = some (1, 1, false) := by kernel_rfl
theorem fo60_2 : fieldOf Go.Proofs.Tryz.prog 60 2 = some (2, 1, false) := by kernel_rfl
theorem fo60_3 : fieldOf Go.Proofs.Tryz.prog 60 3 = some (3, 1, false) := by kernel_rfl
theorem sz132 : szOf Go.Proofs.Tryz.prog 132 = some 3 := by kernel_rfl
theorem ki132 : kinds Go.Proofs.Tryz.prog 12 132 = some [none, none, none] := by kernel_rfl
theorem ze132 : zeroOf Go.Proofs.Tryz.prog 132 = some [.v (vi 0), .v (vi 0), .v (vi 0)] := by kernel_rfl
theorem by132 : bytesOf Go.Proofs.Tryz.prog 132 = some 24 := by kernel_rfl
theorem ag132 : aggOf Go.Proofs.Tryz.prog 132 = some true := by kernel_rfl
theorem is132 : isStruct Go.Proofs.Tryz.prog 132 = true := by kernel_rfl
theorem fo132_0 : fieldOf Go.Proofs.Tryz.prog 132 0 = some (0, 1, false) := by kernel_rfl
theorem fo132_1 : fieldOf Go.Proofs.Tryz.prog 132 1 = some (1, 1, false) := by kernel_rfl
theorem fo132_2 : fieldOf Go.Proofs.Tryz.prog 132 2 = some (2, 1, false) := by kernel_rfl
theorem gu132 : Go.Proofs.Tryz.prog.eqGuardType Go.Proofs.Tryz.prog.depth 132 = false := by kernel_rfl
theorem fe132 : flatEq Go.Proofs.Tryz.prog 12 132 = some [.i, .i, .i] := by kernel_rfl
theorem sz38 : szOf Go.Proofs.Tryz.prog 38 = some 1 := by kernel_rfl
theorem ki38 : kinds Go.Proofs.Tryz.prog 12 38 = some [some 3] := by kernel_rfl
theorem ze38 : zeroOf Go.Proofs.Tryz.prog 38 = some [.s true 3 []] := by kernel_rfl
theorem by38 : bytesOf Go.Proofs.Tryz.prog 38 = some 24 := by kernel_rfl
theorem ag38 : aggOf Go.Proofs.Tryz.prog 38 = some false := by kernel_rfl
theorem el38 : elemOf Go.Proofs.Tryz.prog 38 = some 132 := by kernel_rfl
theorem un38 : Go.Proofs.Tryz.prog.underlying 38 = some (.slice 132) := by kernel_rfl
theorem sz34 : szOf Go.Proofs.Tryz.prog 34 = some 1 := by kernel_rfl
theorem ki34 : kinds Go.Proofs.Tryz.prog 12 34 = some [some 4] := by kernel_rfl
theorem ze34 : zeroOf Go.Proofs.Tryz.prog 34 = some [.s true 4 []] := by kernel_rfl
theorem by34 : bytesOf Go.Proofs.Tryz.prog 34 = some 24 := by kernel_rfl
theorem ag34 : aggOf Go.Proofs.Tryz.prog 34 = some false := by kernel_rfl
theorem el34 : elemOf Go.Proofs.Tryz.prog 34 = some 60 := by kernel_rfl
theorem un34 : Go.Proofs.Tryz.prog.underlying 34 = some (.slice 60) := by kernel_rfl
theorem sz36 : szOf Go.Proofs.Tryz.prog 36 = some 2 := by kernel_rfl
theorem ki36 : kinds Go.Proofs.Tryz.prog 12 36 = some [some 4, none] := by kernel_rfl
theorem ze36 : zeroOf Go.Proofs.Tryz.prog 36 = some [.s true 4 [], .v (vi 0)] := by kernel_rfl
theorem by36 : bytesOf Go.Proofs.Tryz.prog 36 = some 32 := by kernel_rfl
theorem ag36 : aggOf Go.Proofs.Tryz.prog 36 = some true := by kernel_rfl
theorem is36 : isStruct Go.Proofs.Tryz.prog 36 = true := by kernel_rfl
theorem fo36_0 : fieldOf Go.Proofs.Tryz.prog 36 0 = some (0, 1, false) := by kernel_rfl
theorem fo36_1 : fieldOf Go.Proofs.Tryz.prog 36 1 = some (1, 1, false) := by kernel_rfl
theorem sz37 : szOf Go.Proofs.Tryz.prog 37 = some 3 := by kernel_rfl
theorem ki37 : kinds Go.Proofs.Tryz.prog 12 37 = some [none, none, none] := by kernel_rfl
theorem ze37 : zeroOf Go.Proofs.Tryz.prog 37 = some [.v (vi 0), .v (vi 0), .v (vi 0)] := by kernel_rfl
theorem by37 : bytesOf Go.Proofs.Tryz.prog 37 = some 24 := by kernel_rfl
theorem ag37 : aggOf Go.Proofs.Tryz.prog 37 = some true := by kernel_rfl
theorem is37 : isStruct Go.Proofs.Tryz.prog 37 = true := by kernel_rfl
theorem fo37_0 : fieldOf Go.Proofs.Tryz.prog 37 0 = some (0, 1, false) := by kernel_rfl
theorem fo37_1 : fieldOf Go.Proofs.Tryz.prog 37 1 = some (1, 1, false) := by kernel_rfl
theorem fo37_2 : fieldOf Go.Proofs.Tryz.prog 37 2 = some (2, 1, false) := by kernel_rfl
theorem gu37 : Go.Proofs.Tryz.prog.eqGuardType Go.Proofs.Tryz.prog.depth 37 = false := by kernel_rfl
theorem fe37 : flatEq Go.Proofs.Tryz.prog 12 37 = some [.i, .i, .i] := by kernel_rfl
theorem sz66 : szOf Go.Proofs.Tryz.prog 66 = some 12 := by kernel_rfl
theorem ki66 : kinds Go.Proofs.Tryz.prog 12 66 = some [none, none, none, none, none, none, some 1, some 1, none, some 7, none, some 7] := by kernel_rfl
theorem ze66 : zeroOf Go.Proofs.Tryz.prog 66 = some [.v (.bool false), .v (.bool false), .v (vi 0), .v (vi 0), .v (vi 0), .v (vi 0), .s true 1 [], .s true 1 [], .v (vi 0), .s true 7 [], .v (vi 0), .s true 7 []] := by kernel_rfl
theorem by66 : bytesOf Go.Proofs.Tryz.prog 66 = some 152 := by kernel_rfl
theorem ag66 : aggOf Go.Proofs.Tryz.prog 66 = some true := by kernel_rfl
theorem is66 : isStruct Go.Proofs.Tryz.prog 66 = true := by kernel_rfl
theorem fo66_0 : fieldOf Go.Proofs.Tryz.prog 66 0 = some (0, 1, false) := by kernel_rfl
theorem fo66_1 : fieldOf Go.Proofs.Tryz.prog 66 1 = some (1, 1, false) := by kernel_rfl
theorem fo66_2 : fieldOf Go.Proofs.Tryz.prog 66 2 = some (2, 1, false) := by kernel_rfl
theorem fo66_3 : fieldOf Go.Proofs.Tryz.prog 66 3 = some (3, 1, false) := by kernel_rfl
theorem fo66_4 : fieldOf Go.Proofs.Tryz.prog 66 4 = some (4, 4, true) := by kernel_rfl
theorem fo66_5 : fieldOf Go.Proofs.Tryz.prog 66 5 = some (8, 1, false) := by kernel_rfl
theorem fo66_6 : fieldOf Go.Proofs.Tryz.prog 66 6 = some (9, 1, false) := by kernel_rfl
theorem fo66_7 : fieldOf Go.Proofs.Tryz.prog 66 7 = some (10, 1, false) := by kernel_rfl
theorem fo66_8 : fieldOf Go.Proofs.Tryz.prog 66 8 = some (11, 1, false) := by kernel_rfl
theorem sz33 : szOf Go.Proofs.Tryz.prog 33 = some 1 := by kernel_rfl
theorem ki33 : kinds Go.Proofs.Tryz.prog 12 33 = some [some 12] := by kernel_rfl
theorem ze33 : zeroOf Go.Proofs.Tryz.prog 33 = some [.s true 12 []] := by kernel_rfl
theorem by33 : bytesOf Go.Proofs.Tryz.prog 33 = some 24 := by kernel_rfl
theorem ag33 : aggOf Go.Proofs.Tryz.prog 33 = some false := by kernel_rfl
theorem el33 : elemOf Go.Proofs.Tryz.prog 33 = some 66 := by kernel_rfl
theorem un33 : Go.Proofs.Tryz.prog.underlying 33 = some (.slice 66) := by kernel_rfl
theorem sz40 : szOf Go.Proofs.Tryz.prog 40 = some 10 := by kernel_rfl
theorem ki40 : kinds Go.Proofs.Tryz.prog 12 40 = some [none, some 12, some 1, some 4, none, none, none, none, none, some 3] := by kernel_rfl
theorem ze40 : zeroOf Go.Proofs.Tryz.prog 40 = some [.v (vi 0), .s true 12 [], .s true 1 [], .s true 4 [], .v (vi 0), .v (vi 0), .v (vi 0), .v (vi 0), .v (vi 0), .s true 3 []] := by kernel_rfl
theorem by40 : bytesOf Go.Proofs.Tryz.prog 40 = some 144 := by kernel_rfl
theorem ag40 : aggOf Go.Proofs.Tryz.prog 40 = some true := by kernel_rfl
theorem is40 : isStruct Go.Proofs.Tryz.prog 40 = true := by kernel_rfl
theorem fo40_0 : fieldOf Go.Proofs.Tryz.prog 40 0 = some (0, 1, false) := by kernel_rfl
theorem fo40_1 : fieldOf Go.Proofs.Tryz.prog 40 1 = some (1, 1, false) := by kernel_rfl
theorem fo40_2 : fieldOf Go.Proofs.Tryz.prog 40 2 = some (2, 1, false) := by kernel_rfl
theorem fo40_3 : fieldOf Go.Proofs.Tryz.prog 40 3 = some (3, 2, true) := by kernel_rfl
theorem fo40_4 : fieldOf Go.Proofs.Tryz.prog 40 4 = some (5, 1, false) := by kernel_rfl
theorem fo40_5 : fieldOf Go.Proofs.Tryz.prog 40 5 = some (6, 3, true) := by kernel_rfl
theorem fo40_6 : fieldOf Go.Proofs.Tryz.prog 40 6 = some (9, 1, false) := by kernel_rfl
theorem un189 : Go.Proofs.Tryz.prog.underlying 189 = some (.int .u64) := by kernel_rfl
theorem un202 : Go.Proofs.Tryz.prog.underlying 202 = some (.int .u64) := by kernel_rfl
theorem ki189 : kinds Go.Proofs.Tryz.prog 12 189 = some [none] := by kernel_rfl
theorem ki202 : kinds Go.Proofs.Tryz.prog 12 202 = some [none] := by kernel_rfl
theorem un3 : Go.Proofs.Tryz.prog.underlying 3 = some (.int .i64) := by kernel_rfl
theorem el3n : elemOf Go.Proofs.Tryz.prog 3 = none := by kernel_rfl
theorem sz182 : szOf Go.Proofs.Tryz.prog 182 = some 1 := by kernel_rfl
theorem ki182 : kinds Go.Proofs.Tryz.prog 12 182 = some [some 1] := by kernel_rfl
theorem ze182 : zeroOf Go.Proofs.Tryz.prog 182 = some [.s true 1 []] := by kernel_rfl
theorem by182 : bytesOf Go.Proofs.Tryz.prog 182 = some 24 := by kernel_rfl
theorem ag182 : aggOf Go.Proofs.Tryz.prog 182 = some false := by kernel_rfl
theorem el182 : elemOf Go.Proofs.Tryz.prog 182 = some 23 := by kernel_rfl
theorem un182 : Go.Proofs.Tryz.prog.underlying 182 = some (.slice 23) := by kernel_rfl
theorem sz185 : szOf Go.Proofs.Tryz.prog 185 = some 1 := by kernel_rfl
theorem ki185 : kinds Go.Proofs.Tryz.prog 12 185 = some [some 1] := by kernel_rfl
theorem ze185 : zeroOf Go.Proofs.Tryz.prog 185 = some [.s true 1 []] := by kernel_rfl
theorem by185 : bytesOf Go.Proofs.Tryz.prog 185 = some 24 := by kernel_rfl
theorem ag185 : aggOf Go.Proofs.Tryz.prog 185 = some false := by kernel_rfl
theorem el185 : elemOf Go.Proofs.Tryz.prog 185 = some 64 := by kernel_rfl
theorem un185 : Go.Proofs.Tryz.prog.underlying 185 = some (.slice 64) := by kernel_rfl
theorem sz176 : szOf Go.Proofs.Tryz.prog 176 = some 6 := by kernel_rfl
theorem ki176 : kinds Go.Proofs.Tryz.prog 12 176 = some [none, none, none, none, none, none] := by kernel_rfl
theorem ze176 : zeroOf Go.Proofs.Tryz.prog 176 = some [.v (vi 0), .v (vi 0), .v (vi 0), .v (vi 0), .v (vi 0), .v (vi 0)] := by kernel_rfl
theorem by176 : bytesOf Go.Proofs.Tryz.prog 176 = some 48 := by kernel_rfl
theorem ag176 : aggOf Go.Proofs.Tryz.prog 176 = some true := by kernel_rfl
theorem is176 : isStruct Go.Proofs.Tryz.prog 176 = true := by kernel_rfl
theorem fo176_0 : fieldOf Go.Proofs.Tryz.prog 176 0 = some (0, 1, false) := by kernel_rfl
theorem fo176_1 : fieldOf Go.Proofs.Tryz.prog 176 1 = some (1, 1, false) := by kernel_rfl
theorem fo176_2 : fieldOf Go.Proofs.Tryz.prog 176 2 = some (2, 1, false) := by kernel_rfl
theorem fo176_3 : fieldOf Go.Proofs.Tryz.prog 176 3 = some (3, 1, false) := by kernel_rfl
theorem fo176_4 : fieldOf Go.Proofs.Tryz.prog 176 4 = some (4, 1, false) := by kernel_rfl
theorem fo176_5 : fieldOf Go.Proofs.Tryz.prog 176 5 = some (5, 1, false) := by kernel_rfl
theorem gu176 : Go.Proofs.Tryz.prog.eqGuardType Go.Proofs.Tryz.prog.depth 176 = false := by kernel_rfl
theorem fe176 : flatEq Go.Proofs.Tryz.prog 12 176 = some [.i, .i, .i, .i, .i, .i] := by kernel_rfl
theorem sz178 : szOf Go.Proofs.Tryz.prog 178 = some 7 := by kernel_rfl
theorem ki178 : kinds Go.Proofs.Tryz.prog 12 178 = some [none, none, none, none, none, none, none] := by kernel_rfl
theorem ze178 : zeroOf Go.Proofs.Tryz.prog 178 = some [.v (vi 0), .v (vi 0), .v (vi 0), .v (vi 0), .v (vi 0), .v (vi 0), .v (vi 0)] := by kernel_rfl
theorem by178 : bytesOf Go.Proofs.Tryz.prog 178 = some 56 := by kernel_rfl
theorem ag178 : aggOf Go.Proofs.Tryz.prog 178 = some true := by kernel_rfl
theorem is178 : isStruct Go.Proofs.Tryz.prog 178 = true := by kernel_rfl
theorem fo178_0 : fieldOf Go.Proofs.Tryz.prog 178 0 = some (0, 1, false) := by kernel_rfl
theorem fo178_1 : fieldOf Go.Proofs.Tryz.prog 178 1 = some (1, 6, true) := by kernel_rfl
theorem gu178 : Go.Proofs.Tryz.prog.eqGuardType Go.Proofs.Tryz.prog.depth 178 = false := by kernel_rfl
theorem fe178 : flatEq Go.Proofs.Tryz.prog 12 178 = some [.i, .i, .i, .i, .i, .i, .i] := by kernel_rfl
theorem sz134 : szOf Go.Proofs.Tryz.prog 134 = some 3 := by kernel_rfl
theorem ki134 : kinds Go.Proofs.Tryz.prog 12 134 = some [none, none, none] := by kernel_rfl
theorem ze134 : zeroOf Go.Proofs.Tryz.prog 134 = some [.v (vi 0), .v (vi 0), .v (vi 0)] := by kernel_rfl
theorem by134 : bytesOf Go.Proofs.Tryz.prog 134 = some 24 := by kernel_rfl
theorem ag134 : aggOf Go.Proofs.Tryz.prog 134 = some true := by kernel_rfl
theorem is134 : isStruct Go.Proofs.Tryz.prog 134 = true := by kernel_rfl
theorem fo134_0 : fieldOf Go.Proofs.Tryz.prog 134 0 = some (0, 1, false) := by kernel_rfl
theorem fo134_1 : fieldOf Go.Proofs.Tryz.prog 134 1 = some (1, 1, false) := by kernel_rfl
theorem fo134_2 : fieldOf Go.Proofs.Tryz.prog 134 2 = some (2, 1, false) := by kernel_rfl
theorem gu134 : Go.Proofs.Tryz.prog.eqGuardType Go.Proofs.Tryz.prog.depth 134 = false := by kernel_rfl
theorem fe134 : flatEq Go.Proofs.Tryz.prog 12 134 = some [.i, .i, .i] := by kernel_rfl
theorem sz28 : szOf Go.Proofs.Tryz.prog 28 = some 3 := by kernel_rfl
theorem ki28 : kinds Go.Proofs.Tryz.prog 12 28 = some [none, none, none] := by kernel_rfl
theorem ze28 : zeroOf Go.Proofs.Tryz.prog 28 = some [.v (vi 0), .v (vi 0), .v (vi 0)] := by kernel_rfl
theorem by28 : bytesOf Go.Proofs.Tryz.prog 28 = some 24 := by kernel_rfl
theorem ag28 : aggOf Go.Proofs.Tryz.prog 28 = some true := by kernel_rfl
theorem is28 : isStruct Go.Proofs.Tryz.prog 28 = true := by kernel_rfl
theorem fo28_0 : fieldOf Go.Proofs.Tryz.prog 28 0 = some (0, 1, false) := by kernel_rfl
theorem fo28_1 : fieldOf Go.Proofs.Tryz.prog 28 1 = some (1, 1, false) := by kernel_rfl
theorem fo28_2 : fieldOf Go.Proofs.Tryz.prog 28 2 = some (2, 1, false) := by kernel_rfl
theorem gu28 : Go.Proofs.Tryz.prog.eqGuardType Go.Proofs.Tryz.prog.depth 28 = false := by kernel_rfl
theorem fe28 : flatEq Go.Proofs.Tryz.prog 12 28 = some [.i, .i, .i] := by kernel_rfl
theorem sz108 : szOf Go.Proofs.Tryz.prog 108 = some 1 := by kernel_rfl
theorem ki108 : kinds Go.Proofs.Tryz.prog 12 108 = some [some 7] := by kernel_rfl
theorem ze108 : zeroOf Go.Proofs.Tryz.prog 108 = some [.s true 7 []] := by kernel_rfl
theorem by108 : bytesOf Go.Proofs.Tryz.prog 108 = some 24 := by kernel_rfl
theorem ag108 : aggOf Go.Proofs.Tryz.prog 108 = some false := by kernel_rfl
theorem el108 : elemOf Go.Proofs.Tryz.prog 108 = some 178 := by kernel_rfl
theorem un108 : Go.Proofs.Tryz.prog.underlying 108 = some (.slice 178) := by kernel_rfl
theorem sz29 : szOf Go.Proofs.Tryz.prog 29 = some 1 := by kernel_rfl
theorem ki29 : kinds Go.Proofs.Tryz.prog 12 29 = some [some 3] := by kernel_rfl
theorem ze29 : zeroOf Go.Proofs.Tryz.prog 29 = some [.s true 3 []] := by kernel_rfl
theorem by29 : bytesOf Go.Proofs.Tryz.prog 29 = some 24 := by kernel_rfl
theorem ag29 : aggOf Go.Proofs.Tryz.prog 29 = some false := by kernel_rfl
theorem el29 : elemOf Go.Proofs.Tryz.prog 29 = some 134 := by kernel_rfl
theorem un29 : Go.Proofs.Tryz.prog.underlying 29 = some (.slice 134) := by kernel_rfl
theorem sz107 : szOf Go.Proofs.Tryz.prog 107 = some 4 := by kernel_rfl
theorem ki107 : kinds Go.Proofs.Tryz.prog 12 107 = some [none, none, some 1, some 1] := by kernel_rfl
theorem ze107 : zeroOf Go.Proofs.Tryz.prog 107 = some [.v (vi 0), .v (vi 0), .s true 1 [], .s true 1 []] := by kernel_rfl
theorem by107 : bytesOf Go.Proofs.Tryz.prog 107 = some 64 := by kernel_rfl
theorem ag107 : aggOf Go.Proofs.Tryz.prog 107 = some true := by kernel_rfl
theorem is107 : isStruct Go.Proofs.Tryz.prog 107 = true := by kernel_rfl
theorem fo107_0 : fieldOf Go.Proofs.Tryz.prog 107 0 = some (0, 1, false) := by kernel_rfl
theorem fo107_1 : fieldOf Go.Proofs.Tryz.prog 107 1 = some (1, 1, false) := by kernel_rfl
theorem fo107_2 : fieldOf Go.Proofs.Tryz.prog 107 2 = some (2, 1, false) := by kernel_rfl
theorem fo107_3 : fieldOf Go.Proofs.Tryz.prog 107 3 = some (3, 1, false) := by kernel_rfl
theorem sz24 : szOf Go.Proofs.Tryz.prog 24 = some 1 := by kernel_rfl
theorem ki24 : kinds Go.Proofs.Tryz.prog 12 24 = some [some 4] := by kernel_rfl
theorem ze24 : zeroOf Go.Proofs.Tryz.prog 24 = some [.s true 4 []] := by kernel_rfl
theorem by24 : bytesOf Go.Proofs.Tryz.prog 24 = some 24 := by kernel_rfl
theorem ag24 : aggOf Go.Proofs.Tryz.prog 24 = some false := by kernel_rfl
theorem el24 : elemOf Go.Proofs.Tryz.prog 24 = some 107 := by kernel_rfl
theorem un24 : Go.Proofs.Tryz.prog.underlying 24 = some (.slice 107) := by kernel_rfl
theorem sz26 : szOf Go.Proofs.Tryz.prog 26 = some 2 := by kernel_rfl
theorem ki26 : kinds Go.Proofs.Tryz.prog 12 26 = some [some 4, none] := by kernel_rfl
theorem ze26 : zeroOf Go.Proofs.Tryz.prog 26 = some [.s true 4 [], .v (vi 0)] := by kernel_rfl
theorem by26 : bytesOf Go.Proofs.Tryz.prog 26 = some 32 := by kernel_rfl
theorem ag26 : aggOf Go.Proofs.Tryz.prog 26 = some true := by kernel_rfl
theorem is26 : isStruct Go.Proofs.Tryz.prog 26 = true := by kernel_rfl
theorem fo26_0 : fieldOf Go.Proofs.Tryz.prog 26 0 = some (0, 1, false) := by kernel_rfl
theorem fo26_1 : fieldOf Go.Proofs.Tryz.prog 26 1 = some (1, 1, false) := by kernel_rfl
theorem sz110 : szOf Go.Proofs.Tryz.prog 110 = some 12 := by kernel_rfl
theorem ki110 : kinds Go.Proofs.Tryz.prog 12 110 = some [none, none, none, none, none, none, some 1, some 1, none, some 7, none, some 7] := by kernel_rfl
theorem ze110 : zeroOf Go.Proofs.Tryz.prog 110 = some [.v (.bool false), .v (.bool false), .v (vi 0), .v (vi 0), .v (vi 0), .v (vi 0), .s true 1 [], .s true 1 [], .v (vi 0), .s true 7 [], .v (vi 0), .s true 7 []] := by kernel_rfl
theorem by110 : bytesOf Go.Proofs.Tryz.prog 110 = some 152 := by kernel_rfl
theorem ag110 : aggOf Go.Proofs.Tryz.prog 110 = some true := by kernel_rfl
theorem is110 : isStruct Go.Proofs.Tryz.prog 110 = true := by kernel_rfl
theorem fo110_0 : fieldOf Go.Proofs.Tryz.prog 110 0 = some (0, 1, false) := by kernel_rfl
theorem fo110_1 : fieldOf Go.Proofs.Tryz.prog 110 1 = some (1, 1, false) := by kernel_rfl
theorem fo110_2 : fieldOf Go.Proofs.Tryz.prog 110 2 = some (2, 1, false) := by kernel_rfl
theorem fo110_3 : fieldOf Go.Proofs.Tryz.prog 110 3 = some (3, 1, false) := by kernel_rfl
theorem fo110_4 : fieldOf Go.Proofs.Tryz.prog 110 4 = some (4, 4, true) := by kernel_rfl
theorem fo110_5 : fieldOf Go.Proofs.Tryz.prog 110 5 = some (8, 1, false) := by kernel_rfl
theorem fo110_6 : fieldOf Go.Proofs.Tryz.prog 110 6 = some (9, 1, false) := by kernel_rfl
theorem fo110_7 : fieldOf Go.Proofs.Tryz.prog 110 7 = some (10, 1, false) := by kernel_rfl
theorem fo110_8 : fieldOf Go.Proofs.Tryz.prog 110 8 = some (11, 1, false) := by kernel_rfl
theorem sz22 : szOf Go.Proofs.Tryz.prog 22 = some 1 := by kernel_rfl
theorem ki22 : kinds Go.Proofs.Tryz.prog 12 22 = some [some 12] := by kernel_rfl
theorem ze22 : zeroOf Go.Proofs.Tryz.prog 22 = some [.s true 12 []] := by kernel_rfl
theorem by22 : bytesOf Go.Proofs.Tryz.prog 22 = some 24 := by kernel_rfl
theorem ag22 : aggOf Go.Proofs.Tryz.prog 22 = some false := by kernel_rfl
theorem el22 : elemOf Go.Proofs.Tryz.prog 22 = some 110 := by kernel_rfl
theorem un22 : Go.Proofs.Tryz.prog.underlying 22 = some (.slice 110) := by kernel_rfl
theorem sz31 : szOf Go.Proofs.Tryz.prog 31 = some 10 := by kernel_rfl
theorem ki31 : kinds Go.Proofs.Tryz.prog 12 31 = some [none, some 12, some 1, some 4, none, none, none, none, none, some 3] := by kernel_rfl
theorem ze31 : zeroOf Go.Proofs.Tryz.prog 31 = some [.v (vi 0), .s true 12 [], .s true 1 [], .s true 4 [], .v (vi 0), .v (vi 0), .v (vi 0), .v (vi 0), .v (vi 0), .s true 3 []] := by kernel_rfl
theorem by31 : bytesOf Go.Proofs.Tryz.prog 31 = some 144 := by kernel_rfl
theorem ag31 : aggOf Go.Proofs.Tryz.prog 31 = some true := by kernel_rfl
theorem is31 : isStruct Go.Proofs.Tryz.prog 31 = true := by kernel_rfl
theorem fo31_0 : fieldOf Go.Proofs.Tryz.prog 31 0 = some (0, 1, false) := by kernel_rfl
theorem fo31_1 : fieldOf Go.Proofs.Tryz.prog 31 1 = some (1, 1, false) := by kernel_rfl
theorem fo31_2 : fieldOf Go.Proofs.Tryz.prog 31 2 = some (2, 1, false) := by kernel_rfl
theorem fo31_3 : fieldOf Go.Proofs.Tryz.prog 31 3 = some (3, 2, true) := by kernel_rfl
theorem fo31_4 : fieldOf Go.Proofs.Tryz.prog 31 4 = some (5, 1, false) := by kernel_rfl
theorem fo31_5 : fieldOf Go.Proofs.Tryz.prog 31 5 = some (6, 3, true) := by kernel_rfl
theorem fo31_6 : fieldOf Go.Proofs.Tryz.prog 31 6 = some (9, 1, false) := by kernel_rfl
theorem un9 : Go.Proofs.Tryz.prog.underlying 9 = some .string := by kernel_rfl
theorem eln9 : elemOf Go.Proofs.Tryz.prog 9 = none := by kernel_rfl
theorem un5 : Go.Proofs.Tryz.prog.underlying 5 = some (.int .u8) := by kernel_rfl
theorem ki5 : kinds Go.Proofs.Tryz.prog 12 5 = some [none] := by kernel_rfl
theorem sz5 : szOf Go.Proofs.Tryz.prog 5 = some 1 := by kernel_rfl
theorem ze5 : zeroOf Go.Proofs.Tryz.prog 5 = some [.v (.int .u8 0)] := by kernel_rfl
theorem ki9 : kinds Go.Proofs.Tryz.prog 12 9 = some [none] := by kernel_rfl
theorem sz9 : szOf Go.Proofs.Tryz.prog 9 = some 1 := by kernel_rfl
theorem ze9 : zeroOf Go.Proofs.Tryz.prog 9 = some [.v (.string ⟨#[]⟩)] := by kernel_rfl
theorem by9 : bytesOf Go.Proofs.Tryz.prog 9 = some 16 := by kernel_rfl
theorem ag9 : aggOf Go.Proofs.Tryz.prog 9 = some false := by kernel_rfl
attribute [go_sem] sz3 ki3 ze3 by3 ag3 sz4 ki4 ze4 by4 ag4 un4 sz23 ki23 ze23 by23 ag23 el23 un23 sz125 ki125 ze125 by125 ag125 is125 fo125_0 fo125_1 fo125_2 fo125_3 fo125_4 fo125_5 gu125 fe125 sz64 ki64 ze64 by64 ag64 el64 sz127 ki127 ze127 by127 ag127 is127 fo127_0 fo127_1 gu127 fe127 un64 sz60 ki60 ze60 by60 ag60 is60 fo60_0 fo60_1 fo60_2 fo60_3 sz132 ki132 ze132 by132 ag132 is132 fo132_0 fo132_1 fo132_2 gu132 fe132 sz38 ki38 ze38 by38 ag38 el38 un38 sz34 ki34 ze34 by34 ag34 el34 un34 sz36 ki36 ze36 by36 ag36 is36 fo36_0 fo36_1 sz37 ki37 ze37 by37 ag37 is37 fo37_0 fo37_1 fo37_2 gu37 fe37 sz66 ki66 ze66 by66 ag66 is66 fo66_0 fo66_1 fo66_2 fo66_3 fo66_4 fo66_5 fo66_6 fo66_7 fo66_8 sz33 ki33 ze33 by33 ag33 el33 un33 sz40 ki40 ze40 by40 ag40 is40 fo40_0 fo40_1 fo40_2 fo40_3 fo40_4 fo40_5 fo40_6 un189 un202 ki189 ki202 un3 el3n sz182 ki182 ze182 by182 ag182 el182 un182 sz185 ki185 ze185 by185 ag185 el185 un185 sz176 ki176 ze176 by176 ag176 is176 fo176_0 fo176_1 fo176_2 fo176_3 fo176_4 fo176_5 gu176 fe176 sz178 ki178 ze178 by178 ag178 is178 fo178_0 fo178_1 gu178 fe178 sz134 ki134 ze134 by134 ag134 is134 fo134_0 fo134_1 fo134_2 gu134 fe134 sz28 ki28 ze28 by28 ag28 is28 fo28_0 fo28_1 fo28_2 gu28 fe28 sz108 ki108 ze108 by108 ag108 el108 un108 sz29 ki29 ze29 by29 ag29 el29 un29 sz107 ki107 ze107 by107 ag107 is107 fo107_0 fo107_1 fo107_2 fo107_3 sz24 ki24 ze24 by24 ag24 el24 un24 sz26 ki26 ze26 by26 ag26 is26 fo26_0 fo26_1 sz110 ki110 ze110 by110 ag110 is110 fo110_0 fo110_1 fo110_2 fo110_3 fo110_4 fo110_5 fo110_6 fo110_7 fo110_8 sz22 ki22 ze22 by22 ag22 el22 un22 sz31 ki31 ze31 by31 ag31 is31 fo31_0 fo31_1 fo31_2 fo31_3 fo31_4 fo31_5 fo31_6 un9 eln9 un5 ki5 sz5 ze5 ki9 sz9 ze9 by9 ag9
end Go.Abs
namespace Go.Abs
theorem HFS : (∀ (p : Prop) [Decidable p], (decide p = true) = p) ∧ (∀ (p : Prop) [Decidable p], (decide p = false) = ¬ p) ∧ (∀ b : Bool, ((!b) = true) = (b = false)) ∧ (∀ b : Bool, ((!b) = false) = (b = true)) ∧ (∀ b : Bool, (¬ (b = true)) = (b = false)) ∧ (∀ b : Bool, (¬ (b = false)) = (b = true)) ∧
    (∀ (α : Type) [BEq α] [LawfulBEq α] (a b : α), ((a == b) = true) = (a = b)) ∧ (∀ (α : Type) [BEq α] [LawfulBEq α] (a b : α), ((a == b) = false) = (a ≠ b)) ∧ (∀ (α : Type) [BEq α] [LawfulBEq α] (a b : α), ((a != b) = true) = (a ≠ b)) ∧ (∀ (α : Type) [BEq α] [LawfulBEq α] (a b : α), ((a != b) = false) = (a = b)) ∧
    (∀ a b : Int, (¬ a < b) = (b ≤ a)) ∧ (∀ a b : Int, (¬ a ≤ b) = (b < a)) ∧ (∀ (α : Type) (a b : α), (a ≠ b) = ¬ (a = b)) :=
  ⟨fun _ _ => decide_eq_true_eq, fun _ _ => propext decide_eq_false_iff_not, fun _ => Bool.not_eq_true' _, fun _ => Bool.not_eq_false' _, fun _ => Bool.not_eq_true _, fun _ => Bool.not_eq_false _, fun _ _ _ _ _ => propext beq_iff_eq, fun _ _ _ _ _ => propext beq_eq_false_iff_ne, fun _ _ _ _ _ => propext bne_iff_ne, fun _ _ _ _ _ => propext bne_eq_false_iff_eq, fun _ _ => propext Int.not_lt, fun _ _ => propext Int.not_le, fun _ _ _ => rfl⟩
theorem IJS : (∀ (α : Type) (a b : α) (l m : List α), (a :: l = b :: m) = (a = b ∧ l = m)) ∧ (∀ a b, (A.c a = A.c b) = (a = b)) ∧ (∀ a b, (A.a a = A.a b) = (a = b)) ∧ (∀ x y, (T.v x = T.v y) = (x = y)) ∧ (∀ a b c a' b' c', (T.s a b c = T.s a' b' c') = (a = a' ∧ b = b' ∧ c = c')) ∧ (∀ a b, (Value.bool a = Value.bool b) = (a = b)) ∧ (∀ k m k' m', (Value.int k m = Value.int k' m') = (k = k' ∧ m = m')) ∧ (∀ p : Prop, (p ∧ True) = p) ∧ (∀ p : Prop, (True ∧ p) = p) := by
  refine ⟨?_, ?_, ?_, ?_, ?_, ?_, ?_, ?_, ?_⟩ <;> intros <;> simp
end Go.Abs
