/- What the laws' arguments look like. No condition. -/
import Derived.Test.YtijifinpifomcaaFacts
import Derived.Test.YtijifinpifomcaaRows
import Derived.Test.YtijifinpifomcaaPure29
set_option linter.unusedVariables false
set_option linter.unusedSimpArgs false
set_option linter.unnecessarySimpa false
set_option linter.constructorNameAsVariable false
set_option linter.unusedSectionVars false
set_option maxRecDepth 100000
namespace Go.Proofs.Ytijifinpifomcaa
open Go.ChangeShapes Go.WideShapes Go.ChangeAt Go.RowKit Go.Abs
theorem Try.own : ownKnob Try.prog.godebug = none := by kernel_rfl
theorem Try.laidOut : laidOutB Try.prog = true := by kernel_rfl
theorem Try.undB : Try.prog.underlying 4 = some .bool := by kernel_rfl
theorem Try.cel22 : Abs.E.cellB Try.prog 22 = true := by kernel_rfl
theorem Try.sh22 : Abs.E.shapes Try.prog 12 22 = some [.sl [.i .u8]] := by kernel_rfl
end Go.Proofs.Ytijifinpifomcaa
