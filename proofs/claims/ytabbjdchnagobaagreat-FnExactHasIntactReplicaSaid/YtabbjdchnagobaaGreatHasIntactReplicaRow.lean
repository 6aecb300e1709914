/- The closed facts of one row of the given statements, by the kernel, one after the other. No condition. -/
import Derived.Test.YtabbjdchnagobaaGreatRows
import Derived.Test.YtabbjdchnagobaaGreatClosedOne
import Derived.Test.YtabbjdchnagobaaGreatClosedTwo
import Derived.JoinedOf
import Derived.KernelRfl
set_option maxRecDepth 100000
namespace Go.Proofs.YtabbjdchnagobaaGreat
open Go
theorem inPlace_HasIntactReplica : (Rows.fnExactHasIntactReplicaRow.inPlace == Tryz.prog.inPlace 4) = true := by kernel_rfl
theorem unfollowed_HasIntactReplica : (Rows.fnExactHasIntactReplicaRow.unfollowed == Tryz.prog.unfollowed 4) = true := by kernel_rfl
theorem recurses_HasIntactReplica : (Rows.fnExactHasIntactReplicaRow.recurses == Tryz.prog.recurses 4) = true := by kernel_rfl
theorem named_HasIntactReplica : (Rows.fnExactHasIntactReplicaRow.named == Tryz.prog.varsNamed 4) = true := by kernel_rfl
theorem joined_HasIntactReplica : joinedFacts Tryz.prog 4 Tryz.f4 Rows.fnExactHasIntactReplicaSpec Rows.fnExactHasIntactReplicaRow = true := by
  unfold joinedFacts
  rw [Tryz.mayE, Tryz.lifts, Tryz.laidB, inPlace_HasIntactReplica, unfollowed_HasIntactReplica, recurses_HasIntactReplica, named_HasIntactReplica]
  kernel_rfl
end Go.Proofs.YtabbjdchnagobaaGreat
