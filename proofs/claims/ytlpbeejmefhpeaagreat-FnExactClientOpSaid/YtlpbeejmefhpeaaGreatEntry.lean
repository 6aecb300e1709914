/- What the laws' arguments look like. No condition. -/
import Derived.Test.YtlpbeejmefhpeaaGreatFacts
import Derived.Test.YtlpbeejmefhpeaaGreatRows
set_option linter.unusedVariables false
set_option linter.unusedSimpArgs false
set_option linter.unnecessarySimpa false
set_option linter.constructorNameAsVariable false
set_option maxRecDepth 100000
namespace Go.Proofs.YtlpbeejmefhpeaaGreat
open Go.ChangeShapes Go.WideShapes Go.ChangeAt Go.RowKit Go.Abs
theorem Tryz.own : ownKnob Tryz.prog.godebug = none := by kernel_rfl
theorem Tryz.laidOut : laidOutB Tryz.prog = true := by kernel_rfl
theorem Tryz.undB : Tryz.prog.underlying 4 = some .bool := by kernel_rfl
theorem Tryz.str31 : Abs.E.strB Tryz.prog 31 = true := by kernel_rfl
theorem Tryz.sh31 : Abs.E.shapes Tryz.prog 12 31 = some Abs.shClu := by kernel_rfl
theorem Tryz.str53 : Abs.E.strB Tryz.prog 53 = true := by kernel_rfl
theorem Tryz.sh53 : Abs.E.shapes Tryz.prog 12 53 = some Abs.shROp := by kernel_rfl
theorem Tryz.cel23 : Abs.E.cellB Tryz.prog 23 = true := by kernel_rfl
theorem Tryz.sh23 : Abs.E.shapes Tryz.prog 12 23 = some [.sl [.i .i64]] := by kernel_rfl
theorem Tryz.cel3 : Abs.E.cellB Tryz.prog 3 = true := by kernel_rfl
theorem Tryz.sh3 : Abs.E.shapes Tryz.prog 12 3 = some [.i .i64] := by kernel_rfl
end Go.Proofs.YtlpbeejmefhpeaaGreat
