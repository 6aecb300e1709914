/- The closed facts of one row of the given statements, by the kernel, one after the other. No condition. -/
import Derived.Test.YtaghlbbopdeljaaGreatRows
import Derived.Test.YtaghlbbopdeljaaGreatClosedOne
import Derived.Test.YtaghlbbopdeljaaGreatClosedTwo
import Derived.JoinedOf
import Derived.KernelRfl
set_option maxRecDepth 100000
namespace Go.Proofs.YtaghlbbopdeljaaGreat
open Go
theorem inPlace_SwitchSteps : (Rows.fnExactSwitchStepsRow.inPlace == Tryz.prog.inPlace 3) = true := by kernel_rfl
theorem unfollowed_SwitchSteps : (Rows.fnExactSwitchStepsRow.unfollowed == Tryz.prog.unfollowed 3) = true := by kernel_rfl
theorem recurses_SwitchSteps : (Rows.fnExactSwitchStepsRow.recurses == Tryz.prog.recurses 3) = true := by kernel_rfl
theorem named_SwitchSteps : (Rows.fnExactSwitchStepsRow.named == Tryz.prog.varsNamed 3) = true := by kernel_rfl
theorem joined_SwitchSteps : joinedFacts Tryz.prog 3 Tryz.f3 Rows.fnExactSwitchStepsSpec Rows.fnExactSwitchStepsRow = true := by
  unfold joinedFacts
  rw [Tryz.mayE, Tryz.lifts, Tryz.laidB, inPlace_SwitchSteps, unfollowed_SwitchSteps, recurses_SwitchSteps, named_SwitchSteps]
  kernel_rfl
end Go.Proofs.YtaghlbbopdeljaaGreat
