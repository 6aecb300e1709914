/- The closed facts of one row of the given statements, by the kernel, one after the other. No condition. -/
import Derived.Test.YtijifinpifomcaaGreatRows
import Derived.Test.YtijifinpifomcaaGreatClosedOne
import Derived.Test.YtijifinpifomcaaGreatClosedTwo
import Derived.JoinedOf
import Derived.KernelRfl
set_option maxRecDepth 100000
namespace Go.Proofs.YtijifinpifomcaaGreat
open Go
theorem inPlace_RepairReplica : (Rows.fnExactRepairReplicaRow.inPlace == Tryz.prog.inPlace 3) = true := by kernel_rfl
theorem unfollowed_RepairReplica : (Rows.fnExactRepairReplicaRow.unfollowed == Tryz.prog.unfollowed 3) = true := by kernel_rfl
theorem recurses_RepairReplica : (Rows.fnExactRepairReplicaRow.recurses == Tryz.prog.recurses 3) = true := by kernel_rfl
theorem named_RepairReplica : (Rows.fnExactRepairReplicaRow.named == Tryz.prog.varsNamed 3) = true := by kernel_rfl
theorem joined_RepairReplica : joinedFacts Tryz.prog 3 Tryz.f3 Rows.fnExactRepairReplicaSpec Rows.fnExactRepairReplicaRow = true := by
  unfold joinedFacts
  rw [Tryz.mayE, Tryz.lifts, Tryz.laidB, inPlace_RepairReplica, unfollowed_RepairReplica, recurses_RepairReplica, named_RepairReplica]
  kernel_rfl
end Go.Proofs.YtijifinpifomcaaGreat
