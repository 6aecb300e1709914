/- The closed facts of one row of the given statements, by the kernel, one after the other. No condition. -/
import Derived.Test.YtbjeefffnpjioaaGreatRows
import Derived.Test.YtbjeefffnpjioaaGreatClosedOne
import Derived.Test.YtbjeefffnpjioaaGreatClosedTwo
import Derived.JoinedOf
import Derived.KernelRfl
set_option maxRecDepth 100000
namespace Go.Proofs.YtbjeefffnpjioaaGreat
open Go
theorem inPlace_TransferCost : (Rows.fnExactTransferCostRow.inPlace == Tryz.prog.inPlace 6) = true := by kernel_rfl
theorem unfollowed_TransferCost : (Rows.fnExactTransferCostRow.unfollowed == Tryz.prog.unfollowed 6) = true := by kernel_rfl
theorem recurses_TransferCost : (Rows.fnExactTransferCostRow.recurses == Tryz.prog.recurses 6) = true := by kernel_rfl
theorem named_TransferCost : (Rows.fnExactTransferCostRow.named == Tryz.prog.varsNamed 6) = true := by kernel_rfl
theorem joined_TransferCost : joinedFacts Tryz.prog 6 Tryz.f6 Rows.fnExactTransferCostSpec Rows.fnExactTransferCostRow = true := by
  unfold joinedFacts
  rw [Tryz.mayE, Tryz.lifts, Tryz.laidB, inPlace_TransferCost, unfollowed_TransferCost, recurses_TransferCost, named_TransferCost]
  kernel_rfl
end Go.Proofs.YtbjeefffnpjioaaGreat
