/- What the laws' arguments look like. No condition. -/
import Derived.Test.YtlfoangodjgeaaaFacts
import Derived.Test.YtlfoangodjgeaaaRows
set_option linter.unusedVariables false
set_option linter.unusedSimpArgs false
set_option linter.unnecessarySimpa false
set_option linter.constructorNameAsVariable false
set_option maxRecDepth 100000
namespace Go.Proofs.Ytlfoangodjgeaaa
open Go.ChangeShapes Go.WideShapes Go.ChangeAt Go.RowKit Go.Abs
theorem Try.own : ownKnob Try.prog.godebug = none := by kernel_rfl
theorem Try.laidOut : laidOutB Try.prog = true := by kernel_rfl
theorem Try.undB : Try.prog.underlying 4 = some .bool := by kernel_rfl
theorem Try.str31 : Abs.E.strB Try.prog 31 = true := by kernel_rfl
theorem Try.sh31 : Abs.E.shapes Try.prog 12 31 = some Abs.shClu := by kernel_rfl
theorem Try.str52 : Abs.E.strB Try.prog 52 = true := by kernel_rfl
theorem Try.sh52 : Abs.E.shapes Try.prog 12 52 = some Abs.shConf := by kernel_rfl
theorem Try.str55 : Abs.E.strB Try.prog 55 = true := by kernel_rfl
theorem Try.sh55 : Abs.E.shapes Try.prog 12 55 = some Abs.shSrv := by kernel_rfl
theorem Try.cel53 : Abs.E.cellB Try.prog 53 = true := by kernel_rfl
theorem Try.sh53 : Abs.E.shapes Try.prog 12 53 = some [.sl Abs.shLEnt] := by kernel_rfl
theorem Try.cel3 : Abs.E.cellB Try.prog 3 = true := by kernel_rfl
theorem Try.sh3 : Abs.E.shapes Try.prog 12 3 = some [.i .i64] := by kernel_rfl
end Go.Proofs.Ytlfoangodjgeaaa
