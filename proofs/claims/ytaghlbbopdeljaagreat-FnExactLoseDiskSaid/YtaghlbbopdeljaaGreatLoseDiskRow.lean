/- The closed facts of one row of the given statements, by the kernel, one after the other. No condition. -/
import Derived.Test.YtaghlbbopdeljaaGreatRows
import Derived.Test.YtaghlbbopdeljaaGreatClosedOne
import Derived.Test.YtaghlbbopdeljaaGreatClosedTwo
import Derived.JoinedOf
import Derived.KernelRfl
set_option maxRecDepth 100000
namespace Go.Proofs.YtaghlbbopdeljaaGreat
open Go
theorem inPlace_LoseDisk : (Rows.fnExactLoseDiskRow.inPlace == Tryz.prog.inPlace 6) = true := by kernel_rfl
theorem unfollowed_LoseDisk : (Rows.fnExactLoseDiskRow.unfollowed == Tryz.prog.unfollowed 6) = true := by kernel_rfl
theorem recurses_LoseDisk : (Rows.fnExactLoseDiskRow.recurses == Tryz.prog.recurses 6) = true := by kernel_rfl
theorem named_LoseDisk : (Rows.fnExactLoseDiskRow.named == Tryz.prog.varsNamed 6) = true := by kernel_rfl
theorem joined_LoseDisk : joinedFacts Tryz.prog 6 Tryz.f6 Rows.fnExactLoseDiskSpec Rows.fnExactLoseDiskRow = true := by
  unfold joinedFacts
  rw [Tryz.mayE, Tryz.lifts, Tryz.laidB, inPlace_LoseDisk, unfollowed_LoseDisk, recurses_LoseDisk, named_LoseDisk]
  kernel_rfl
end Go.Proofs.YtaghlbbopdeljaaGreat
