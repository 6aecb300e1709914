/- The closed facts of one row of the given statements, by the kernel, one after the other. No condition. -/
import Derived.Test.YtandfgncjpgifaaGreatRows
import Derived.Test.YtandfgncjpgifaaGreatClosedOne
import Derived.Test.YtandfgncjpgifaaGreatClosedTwo
import Derived.JoinedOf
import Derived.KernelRfl
set_option maxRecDepth 100000
namespace Go.Proofs.YtandfgncjpgifaaGreat
open Go
theorem inPlace_RepairGroup : (Rows.fnExactRepairGroupRow.inPlace == Tryz.prog.inPlace 4) = true := by kernel_rfl
theorem unfollowed_RepairGroup : (Rows.fnExactRepairGroupRow.unfollowed == Tryz.prog.unfollowed 4) = true := by kernel_rfl
theorem recurses_RepairGroup : (Rows.fnExactRepairGroupRow.recurses == Tryz.prog.recurses 4) = true := by kernel_rfl
theorem named_RepairGroup : (Rows.fnExactRepairGroupRow.named == Tryz.prog.varsNamed 4) = true := by kernel_rfl
theorem joined_RepairGroup : joinedFacts Tryz.prog 4 Tryz.f4 Rows.fnExactRepairGroupSpec Rows.fnExactRepairGroupRow = true := by
  unfold joinedFacts
  rw [Tryz.mayE, Tryz.lifts, Tryz.laidB, inPlace_RepairGroup, unfollowed_RepairGroup, recurses_RepairGroup, named_RepairGroup]
  kernel_rfl
end Go.Proofs.YtandfgncjpgifaaGreat
