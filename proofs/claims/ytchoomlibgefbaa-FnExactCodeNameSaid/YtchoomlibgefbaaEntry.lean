/- What the laws' arguments look like. No condition. -/
import Derived.Test.YtchoomlibgefbaaFacts
import Derived.Test.YtchoomlibgefbaaRows
set_option linter.unusedVariables false
set_option linter.unusedSimpArgs false
set_option linter.unnecessarySimpa false
set_option linter.constructorNameAsVariable false
set_option maxRecDepth 100000
namespace Go.Proofs.Ytchoomlibgefbaa
open Go.ChangeShapes Go.WideShapes Go.ChangeAt Go.RowKit Go.Abs
theorem Try.own : ownKnob Try.prog.godebug = none := by kernel_rfl
theorem Try.laidOut : laidOutB Try.prog = true := by kernel_rfl
theorem Try.undB : Try.prog.underlying 4 = some .bool := by kernel_rfl
theorem Try.cel3 : Abs.E.cellB Try.prog 3 = true := by kernel_rfl
theorem Try.sh3 : Abs.E.shapes Try.prog 12 3 = some [.i .i64] := by kernel_rfl
end Go.Proofs.Ytchoomlibgefbaa
