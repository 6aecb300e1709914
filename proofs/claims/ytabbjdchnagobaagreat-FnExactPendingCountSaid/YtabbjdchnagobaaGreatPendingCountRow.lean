/- The closed facts of one row of the given statements, by the kernel, one after the other. No condition. -/
import Derived.Test.YtabbjdchnagobaaGreatRows
import Derived.Test.YtabbjdchnagobaaGreatClosedOne
import Derived.Test.YtabbjdchnagobaaGreatClosedTwo
import Derived.JoinedOf
import Derived.KernelRfl
set_option maxRecDepth 100000
namespace Go.Proofs.YtabbjdchnagobaaGreat
open Go
theorem inPlace_PendingCount : (Rows.fnExactPendingCountRow.inPlace == Tryz.prog.inPlace 5) = true := by kernel_rfl
theorem unfollowed_PendingCount : (Rows.fnExactPendingCountRow.unfollowed == Tryz.prog.unfollowed 5) = true := by kernel_rfl
theorem recurses_PendingCount : (Rows.fnExactPendingCountRow.recurses == Tryz.prog.recurses 5) = true := by kernel_rfl
theorem named_PendingCount : (Rows.fnExactPendingCountRow.named == Tryz.prog.varsNamed 5) = true := by kernel_rfl
theorem joined_PendingCount : joinedFacts Tryz.prog 5 Tryz.f5 Rows.fnExactPendingCountSpec Rows.fnExactPendingCountRow = true := by
  unfold joinedFacts
  rw [Tryz.mayE, Tryz.lifts, Tryz.laidB, inPlace_PendingCount, unfollowed_PendingCount, recurses_PendingCount, named_PendingCount]
  kernel_rfl
end Go.Proofs.YtabbjdchnagobaaGreat
