/- What the laws' arguments look like. No condition. -/
import Derived.Test.YtijifinpifomcaaGreatFacts
import Derived.Test.YtijifinpifomcaaGreatRows
set_option linter.unusedVariables false
set_option linter.unusedSimpArgs false
set_option linter.unnecessarySimpa false
set_option linter.constructorNameAsVariable false
set_option linter.unusedSectionVars false
set_option maxRecDepth 100000
namespace Go.Proofs.YtijifinpifomcaaGreat
open Go.ChangeShapes Go.WideShapes Go.ChangeAt Go.RowKit Go.Abs
theorem Tryz.own : ownKnob Tryz.prog.godebug = none := by kernel_rfl
theorem Tryz.laidOut : laidOutB Tryz.prog = true := by kernel_rfl
theorem Tryz.undB : Tryz.prog.underlying 4 = some .bool := by kernel_rfl
theorem Tryz.str31 : Abs.E.strB Tryz.prog 31 = true := by kernel_rfl
theorem Tryz.sh31 : Abs.E.shapes Tryz.prog 12 31 = some Abs.shClu := by kernel_rfl
theorem Tryz.cel3 : Abs.E.cellB Tryz.prog 3 = true := by kernel_rfl
theorem Tryz.sh3 : Abs.E.shapes Tryz.prog 12 3 = some [.i .i64] := by kernel_rfl
end Go.Proofs.YtijifinpifomcaaGreat
